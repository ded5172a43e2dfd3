/- Chapter 11 in plain Lean: sets of bytes, their runs, how an expression is read as a tree, and how a tree is laid as instructions. No program in sight. · Memory of chapter 11: what leaves all but one block alone ('GX'), arrays of 256 bools ('bsA'), pieces of an expression as they lie in memory ('Pc.at'), slices of instructions. No program in sight. · Has of the program and of the reference: whether a byte is in one of the runs. · Where an expression is, plain: what an instruction leads to; what is reached; a Match. No program in sight. · The program's list of ways at a place, plain: closed under what needs no byte; what is reached lies in it. No program in sight. -/
import Derived.WalkKit
import Derived.Test.YtbdichmkgcngbaaGreatRunFpPred
import Derived.Test.YtbdichmkgcngbaaGreatRunFxBase
import Derived.Lib.Hide
import Derived.Test.YtbdichmkgcngbaaGreatProg
namespace Go.Proofs.YtbdichmkgcngbaaGreat
set_option linter.unusedVariables false
set_option linter.unusedSimpArgs false
open Go.RowKit

/-- A set of bytes, asked below 256 alone. -/
abbrev Bs := Nat → Bool
def oneB (c : Nat) : Bs := fun i => i == c
def runB (a b : Nat) : Bs := fun i => Nat.ble a i && Nat.ble i b
def orB (f g : Bs) : Bs := fun i => f i || g i
def notB (f : Bs) : Bs := fun i => !f i
def noB : Bs := fun _ => false
def digB : Bs := runB 48 57
def wordB : Bs := orB (orB (orB digB (runB 97 122)) (runB 65 90)) (runB 95 95)
def spB : Bs := orB (runB 9 13) (runB 32 32)
/-- one of the six sets. -/
def namedB (c : Nat) : Option Bs :=
 bif c == 100 then some digB else bif c == 68 then some (notB digB) else
 bif c == 119 then some wordB else bif c == 87 then some (notB wordB) else
 bif c == 115 then some spB else bif c == 83 then some (notB spB) else none
def isWordB (c : Nat) : Bool := wordB c && !(c == 95)

/-- the runs of the first k bytes. -/
def pairsT (f : Bs) : Nat → List UInt8
 | 0 => []
 | k + 1 => pairsT f k ++ ((bif f k && (k == 0 || !f (k - 1)) then [UInt8.ofNat k] else []) ++ (bif f k && (k == 255 || !f (k + 1)) then [UInt8.ofNat k] else []))
def pairsS (f : Bs) : List UInt8 := pairsT f 256

/-- An instruction. -/
structure In where
 op : Int
 x : Int
 y : Int
 ps : List UInt8
deriving DecidableEq

mutual
/-- A piece of an expression. -/
inductive Pc where
 | leaf (op : Nat) (ps : List UInt8) : Pc
 | row (l : PcL) : Pc
 | ways (l : PcL) : Pc
 | group (g : Nat) (k : Pc) : Pc
 | rep (op : Nat) (lazy_ : Bool) (k : Pc) : Pc
inductive PcL where
 | nil : PcL
 | cons (p : Pc) (l : PcL) : PcL
end

def PcL.toList : PcL → List Pc
 | .nil => []
 | .cons p l => p :: l.toList
def PcL.ofList : List Pc → PcL
 | [] => .nil
 | p :: l => .cons p (.ofList l)
theorem PcL.to_of (l : List Pc) : (PcL.ofList l).toList = l := by
 induction l with
 | nil => rfl
 | cons p l ih => simp [PcL.ofList, PcL.toList, ih]

mutual
/-- how many instructions. -/
def Pc.sz : Pc → Nat
 | .leaf _ _ => 1
 | .row l => l.szR
 | .ways l => l.szW
 | .group g k => bif g == 0 then k.sz else k.sz + 2
 | .rep op _ k => bif op == 42 then k.sz + 2 else k.sz + 1
def PcL.szR : PcL → Nat
 | .nil => 0
 | .cons p l => p.sz + l.szR
def PcL.szW : PcL → Nat
 | .nil => 0
 | .cons p .nil => p.sz
 | .cons p (.cons q l) => p.sz + 2 + (PcL.cons q l).szW
end

def splitI (z : Bool) (x y : Int) : In := bif z then ⟨2, y, x, []⟩ else ⟨2, x, y, []⟩
mutual
/-- the instructions of a piece whose first one lies at a place. -/
def Pc.lay : Pc → Nat → List In
 | .leaf op ps, _ => [⟨op, 0, 0, ps⟩]
 | .row l, at_ => l.layR at_
 | .ways l, at_ => l.layW at_ (at_ + l.szW)
 | .group g k, at_ => bif g == 0 then k.lay at_ else ⟨4, 2 * g, 0, []⟩ :: (k.lay (at_ + 1) ++ [⟨4, 2 * g + 1, 0, []⟩])
 | .rep op z k, at_ =>
  bif op == 42 then splitI z (at_ + 1) (at_ + k.sz + 2) :: (k.lay (at_ + 1) ++ [⟨3, at_, 0, []⟩])
  else bif op == 43 then k.lay at_ ++ [splitI z at_ (at_ + k.sz + 1)]
  else splitI z (at_ + 1) (at_ + k.sz + 1) :: k.lay (at_ + 1)
def PcL.layR : PcL → Nat → List In
 | .nil, _ => []
 | .cons p l, at_ => p.lay at_ ++ l.layR (at_ + p.sz)
def PcL.layW : PcL → Nat → Nat → List In
 | .nil, _, _ => []
 | .cons p .nil, at_, _ => p.lay at_
 | .cons p (.cons q l), at_, e => ⟨2, at_ + 1, at_ + p.sz + 2, []⟩ :: (p.lay (at_ + 1) ++ (⟨3, e, 0, []⟩ :: (PcL.cons q l).layW (at_ + p.sz + 2) e))
end

/-- How far an expression is read: what is left of it, how many groups there are, how deep it is, whether it is none, whether it is too deep. -/
structure Rs where
 rest : List UInt8
 groups : Nat
 deep : Nat
 bad : Bool
 over : Bool

def headIs (c : Nat) : List UInt8 → Bool
 | [] => false
 | x :: _ => x.toNat == c
/-- what stands behind a stroke. -/
def escS : List UInt8 → Option Bs × List UInt8
 | [] => (none, [])
 | c :: r => match namedB c.toNat with
  | some f => (some f, r)
  | none => (bif isWordB c.toNat then none else some (oneB c.toNat), r)
def isNamed (c : Nat) : Bool := (namedB c).isSome
/-- a byte of a class, or one of the six. -/
def sideS : List UInt8 → Option (Bs × Nat × Bool) × List UInt8
 | [] => (none, [])
 | c :: r => bif c.toNat == 92 then (match r with
   | [] => (none, [])
   | d :: q => match escS (d :: q) with
    | (some f, _) => (some (f, d.toNat, isNamed d.toNat), q)
    | (none, _) => (none, q))
  else (some (oneB c.toNat, c.toNat, false), r)
def rangesS : List UInt8 → Bool
 | h :: d :: r => h.toNat == 45 && !(d.toNat == 93) && (!(d.toNat == 92) || (match r with | [] => true | e :: _ => !isNamed e.toNat))
 | _ => false
def clsS : Nat → Bool → Bs → List UInt8 → Option Bs × List UInt8
 | 0, _, _, r => (none, r)
 | k + 1, first, all, r =>
  bif first || !headIs 93 r then
   match sideS r with
   | (none, q) => (none, q)
   | (some (f, a, wide), q) =>
    bif !wide && rangesS q then
     match sideS (q.drop 1) with
     | (none, t) => (none, t)
     | (some (_, b, _), t) => bif Nat.blt b a then (none, t) else clsS k false (orB all (orB f (runB a b))) t
    else clsS k false (orB all f) q
  else (some all, r.drop 1)
def classS (r : List UInt8) : Option Bs × List UInt8 :=
 bif headIs 94 r then (match clsS r.length true noB (r.drop 1) with | (some f, q) => (some (notB f), q) | (none, q) => (none, q))
 else clsS (r.length + 1) true noB r

def failS (s : Rs) : Pc × Rs := (.row .nil, { s with bad := true })
def setS (s : Rs) (x : Option Bs × List UInt8) : Pc × Rs :=
 match x with
 | (some f, q) => (.leaf 1 (pairsS f), { s with rest := q })
 | (none, q) => failS { s with rest := q }
def openS (s : Rs) : Nat × Rs :=
 bif headIs 63 s.rest && headIs 58 (s.rest.drop 1) then (0, { s with rest := s.rest.drop 2 }) else (s.groups + 1, { s with groups := s.groups + 1 })
def groupS (W : Rs → Pc × Rs) (s : Rs) : Pc × Rs :=
 bif Nat.ble 64 s.deep then failS { s with deep := s.deep + 1, over := true }
 else
  let r := W (openS { s with deep := s.deep + 1 }).2
  bif r.2.bad || !headIs 41 r.2.rest then failS r.2
  else (.group (openS { s with deep := s.deep + 1 }).1 r.1, { r.2 with rest := r.2.rest.drop 1, deep := r.2.deep - 1 })
def stopC (c : Nat) : Bool := c == 124 || (c == 63 || (c == 42 || (c == 43 || c == 41)))
def atomS (W : Rs → Pc × Rs) (s : Rs) : Pc × Rs :=
 match s.rest with
 | [] => failS s
 | c :: r =>
  bif c.toNat == 40 then groupS W { s with rest := r }
  else bif c.toNat == 94 then (.leaf 5 [], { s with rest := r })
  else bif c.toNat == 36 then (.leaf 6 [], { s with rest := r })
  else bif c.toNat == 46 then (.leaf 1 (pairsS (notB (oneB 10))), { s with rest := r })
  else bif c.toNat == 91 then setS s (classS r)
  else bif c.toNat == 92 then setS s (escS r)
  else bif stopC c.toNat then failS { s with rest := r }
  else (.leaf 1 (pairsS (oneB c.toNat)), { s with rest := r })
def repC (c : Nat) : Bool := c == 42 || (c == 43 || c == 63)
def pieceS (W : Rs → Pc × Rs) (s : Rs) : Pc × Rs :=
 let r := atomS W s
 bif r.2.bad then r else
 match r.2.rest with
 | [] => r
 | c :: q => bif repC c.toNat then (.rep c.toNat (headIs 63 q) r.1, { r.2 with rest := bif headIs 63 q then q.drop 1 else q }) else r
def endR (r : List UInt8) : Bool := match r with | [] => true | c :: _ => c.toNat == 124 || c.toNat == 41
def rowS (W : Rs → Pc × Rs) : Nat → Rs → PcL × Rs
 | 0, s => (.nil, s)
 | k + 1, s => bif s.bad || endR s.rest then (.nil, s) else
  let r := pieceS W s
  let q := rowS W k r.2
  (.cons r.1 q.1, q.2)
def rowP (W : Rs → Pc × Rs) (s : Rs) : Pc × Rs := (.row (rowS W (s.rest.length + 1) s).1, (rowS W (s.rest.length + 1) s).2)
/-- ways, parted by strokes. -/
def altS (W : Rs → Pc × Rs) : Nat → Rs → PcL × Rs
 | 0, s => (.nil, s)
 | k + 1, s =>
  let r := rowP W s
  bif !r.2.bad && headIs 124 r.2.rest then
   let q := altS W k { r.2 with rest := r.2.rest.drop 1 }
   (.cons r.1 q.1, q.2)
  else (.cons r.1 .nil, r.2)
def lone : PcL → Pc
 | .cons p .nil => p
 | l => .ways l
def waysS : Nat → Rs → Pc × Rs
 | 0, s => failS s
 | n + 1, s => (lone (altS (waysS n) (s.rest.length + 1) s).1, (altS (waysS n) (s.rest.length + 1) s).2)
def readS (s : List UInt8) : Pc × Rs := waysS (s.length + 1) ⟨s, 0, 0, false, false⟩
/-- the error of an expression of fewer than 500 bytes; 0: none. -/
def errX (s : List UInt8) : Int :=
 bif (readS s).2.over then 12 else bif (readS s).2.bad || !(readS s).2.rest.isEmpty then 8 else 0
def codeX (s : List UInt8) : List In := ⟨4, 0, 0, []⟩ :: ((readS s).1.lay 1 ++ [⟨4, 1, 0, []⟩, ⟨7, 0, 0, []⟩])

-- a look
theorem known_a : codeX [97, 43] = [⟨4, 0, 0, []⟩, ⟨1, 0, 0, [97, 97]⟩, ⟨2, 1, 3, []⟩, ⟨4, 1, 0, []⟩, ⟨7, 0, 0, []⟩] ∧ errX [97, 43] = 0 := ⟨by kernel_rfl, by kernel_rfl⟩
end Go.Proofs.YtbdichmkgcngbaaGreat
namespace Go.Proofs.YtbdichmkgcngbaaGreat
set_option linter.unusedVariables false
set_option linter.unusedSimpArgs false
open Go.RowKit

/-- 256 bools. -/
def bsA (f : Bs) : Array Value := ((List.range 256).map fun i => Value.bool (f i)).toArray
theorem bsA_size (f : Bs) : (bsA f).size = 256 := by simp [bsA]
theorem bsA_at (f : Bs) {i : Nat} (h : i < 256) : (bsA f)[i]? = some (.bool (f i)) := by simp [bsA, h]
theorem bsA_eq {f g : Bs} (h : ∀ i, i < 256 → f i = g i) : bsA f = bsA g := by
 unfold bsA
 congr 1
 apply List.map_congr_left
 intro i hi
 rw [h i (by simpa using hi)]
theorem bsA_set (f : Bs) (c : Nat) (b : Bool) : (bsA f).setIfInBounds c (.bool b) = bsA (fun i => bif i == c then b else f i) := by
 apply Array.ext
 ·
  simp [bsA]
 ·
  intro i h1 h2
  simp only [bsA_size, Array.size_setIfInBounds] at h1 h2
  rw [Array.getElem_setIfInBounds]
  ·
   simp only [bsA, List.getElem_toArray, List.getElem_map, List.getElem_range]
   by_cases h : i = c
   ·
    subst h; simp
   ·
    have : (i == c) = false := by simpa using h
    simp [this, Ne.symm h]
  ·
   rw [bsA_size]; exact h1

/-- cells of instructions. -/
def icells (l : List In) : List Value := l.flatMap fun v => [.int .i64 v.op, .int .i64 v.x, .int .i64 v.y, .string ⟨v.ps.toArray⟩]
theorem icells_cons (v : In) (l : List In) : icells (v :: l) = .int .i64 v.op :: .int .i64 v.x :: .int .i64 v.y :: .string ⟨v.ps.toArray⟩ :: icells l := rfl
theorem icells_append (l m : List In) : icells (l ++ m) = icells l ++ icells m := by simp [icells]
theorem icells_length (l : List In) : (icells l).length = l.length * 4 := by
 induction l with
 | nil => rfl
 | cons v l ih => rw [icells_cons]; simp only [List.length_cons, ih]; omega
theorem icells_one (l : List In) : ∀ u ∈ icells l, u.oneCell' = true := by
 intro u hu
 simp only [icells, List.mem_flatMap] at hu
 obtain ⟨v, _, hv⟩ := hu
 simp at hv
 rcases hv with rfl | rfl | rfl | rfl <;> rfl
theorem icells_at (l : List In) : ∀ (k : Nat) (h : k < l.length), (icells l)[k * 4]? = some (.int .i64 l[k].op) ∧ (icells l)[k * 4 + 1]? = some (.int .i64 l[k].x) ∧ (icells l)[k * 4 + 2]? = some (.int .i64 l[k].y) ∧ (icells l)[k * 4 + 3]? = some (.string ⟨l[k].ps.toArray⟩) := by
 induction l with
 | nil => intro k h; simp at h
 | cons v l ih =>
  intro k h
  rw [icells_cons]
  match k, h with
  | 0, _ => exact ⟨rfl, rfl, rfl, rfl⟩
  | k + 1, h =>
   have hk : k < l.length := by simp only [List.length_cons] at h; omega
   have e : (k + 1) * 4 = k * 4 + 1 + 1 + 1 + 1 := by omega
   rw [e]
   obtain ⟨h0, h1, h2, h3⟩ := ih k hk
   refine ⟨?_, ?_, ?_, ?_⟩
   ·
    simpa only [List.getElem?_cons_succ, List.getElem_cons_succ] using h0
   ·
    simpa only [List.getElem?_cons_succ, List.getElem_cons_succ, Nat.add_right_comm _ 1] using h1
   ·
    rw [show k * 4 + 1 + 1 + 1 + 1 + 2 = k * 4 + 2 + 1 + 1 + 1 + 1 by omega]; simpa only [List.getElem?_cons_succ, List.getElem_cons_succ] using h2
   ·
    rw [show k * 4 + 1 + 1 + 1 + 1 + 3 = k * 4 + 3 + 1 + 1 + 1 + 1 by omega]; simpa only [List.getElem?_cons_succ, List.getElem_cons_succ] using h3
/-- The slice with the address A reads as the list l of instructions. -/
def Ri (w : World) (A : Option Addr) (l : List In) : Prop := Rd w 4 A l.length (icells l)
theorem Ri.gr {w w' : World} {A : Option Addr} {l : List In} (h : Ri w A l) (g : Gr w w') : Ri w' A l := Rd.gr h g
theorem Ri.at {w : World} {A : Option Addr} {l : List In} (h : Ri w A l) {k : Nat} (hk : k < l.length) :
  ∃ ad : Addr, A = some ad ∧ ad.block < w.heap.size ∧ w.cell? (ad.add (k * 4)) = some (.int .i64 l[k].op) ∧ w.cell? ⟨(ad.add (k * 4)).block, (ad.add (k * 4)).off + 1, none⟩ = some (.int .i64 l[k].x)
   ∧ w.cell? ⟨(ad.add (k * 4)).block, (ad.add (k * 4)).off + 2, none⟩ = some (.int .i64 l[k].y) ∧ w.cell? ⟨(ad.add (k * 4)).block, (ad.add (k * 4)).off + 3, none⟩ = some (.string ⟨l[k].ps.toArray⟩) := by
 obtain ⟨ad, e, hb, hc⟩ := h.2 (by omega)
 obtain ⟨h0, h1, h2, h3⟩ := icells_at l k hk
 exact ⟨ad, e, hb, hc _ _ h0, (congrArg w.cell? (add_next ad (k * 4) 0)).symm.trans (hc _ _ h1), (congrArg w.cell? (add_next ad (k * 4) 1)).symm.trans (hc _ _ h2), (congrArg w.cell? (add_next ad (k * 4) 2)).symm.trans (hc _ _ h3)⟩

/-- a piece's own five cells. -/
def Node (w : World) (b : Nat) (op : Nat) (ps : List UInt8) (kids : Value) (g : Nat) (z : Bool) : Prop :=
 w.cell? ⟨b, 0, none⟩ = some (.int .i64 op) ∧ w.cell? ⟨b, 1, none⟩ = some (.string ⟨ps.toArray⟩) ∧ w.cell? ⟨b, 2, none⟩ = some kids ∧ w.cell? ⟨b, 3, none⟩ = some (.int .i64 g) ∧ w.cell? ⟨b, 4, none⟩ = some (.bool z)
def ptrs (l : List Nat) : List Value := l.map fun b => .pointer (some ⟨b, 0, none⟩)
theorem ptrs_append (l m : List Nat) : ptrs (l ++ m) = ptrs l ++ ptrs m := by simp [ptrs]
/-- a slice of pointers to pieces, above block lo. -/
def Rk (lo : Nat) (w : World) (kids : Value) (bs : List Nat) : Prop :=
 ∃ A c, kids = .slice A bs.length c ∧ Rd w 1 A bs.length (ptrs bs) ∧ (0 < bs.length → ∀ ad, A = some ad → lo < ad.block)
mutual
/-- a piece lies at block b, all of it above block lo. -/
def Pc.at_ (lo : Nat) (w : World) : Pc → Nat → Prop
 | .leaf op ps, b => lo < b ∧ b < w.heap.size ∧ Node w b op ps (.slice none 0 0) 0 false
 | .row l, b => lo < b ∧ b < w.heap.size ∧ ∃ kids bs, Node w b 10 [] kids 0 false ∧ Rk lo w kids bs ∧ l.at_ lo w bs
 | .ways l, b => lo < b ∧ b < w.heap.size ∧ ∃ kids bs, Node w b 11 [] kids 0 false ∧ Rk lo w kids bs ∧ l.at_ lo w bs
 | .group g k, b => lo < b ∧ b < w.heap.size ∧ ∃ kids bk, Node w b 12 [] kids g false ∧ Rk lo w kids [bk] ∧ k.at_ lo w bk
 | .rep op z k, b => lo < b ∧ b < w.heap.size ∧ ∃ kids bk, Node w b op [] kids 0 z ∧ Rk lo w kids [bk] ∧ k.at_ lo w bk
def PcL.at_ (lo : Nat) (w : World) : PcL → List Nat → Prop
 | .nil, bs => bs = []
 | .cons p l, bs => ∃ b r, bs = b :: r ∧ p.at_ lo w b ∧ l.at_ lo w r
end
theorem Node.gx {R b op : Nat} {w w' : World} {ps : List UInt8} {kids : Value} {g : Nat} {z : Bool} (h : Node w b op ps kids g z) (x : GX R w w') (hb : b < w.heap.size) (hn : b ≠ R) : Node w' b op ps kids g z := by
 obtain ⟨h0, h1, h2, h3, h4⟩ := h
 exact ⟨(x.cell (p := ⟨b, 0, none⟩) hb hn).trans h0, (x.cell (p := ⟨b, 1, none⟩) hb hn).trans h1, (x.cell (p := ⟨b, 2, none⟩) hb hn).trans h2, (x.cell (p := ⟨b, 3, none⟩) hb hn).trans h3, (x.cell (p := ⟨b, 4, none⟩) hb hn).trans h4⟩
theorem Rd.gx {R size n : Nat} {w w' : World} {A : Option Addr} {xs : List Value} (h : Rd w size A n xs) (x : GX R w w') (hn : 0 < n → ∀ ad, A = some ad → ad.block ≠ R) : Rd w' size A n xs :=
 ⟨h.1, fun h0 => by
  obtain ⟨ad, e, hb, hc⟩ := h.2 h0
  exact ⟨ad, e, Nat.lt_of_lt_of_le hb x.size, fun j u hu => (x.cell (by rw [add_blk]; exact hb) (by rw [add_blk]; exact hn h0 ad e)).trans (hc j u hu)⟩⟩
theorem Rk.gx {R lo : Nat} {w w' : World} {kids : Value} {bs : List Nat} (h : Rk lo w kids bs) (x : GX R w w') (hR : R ≤ lo) : Rk lo w' kids bs := by
 obtain ⟨A, c, e, hr, hb⟩ := h
 exact ⟨A, c, e, hr.gx x (fun h0 ad ha => by have := hb h0 ad ha; omega), hb⟩
mutual
theorem Pc.gx {R lo : Nat} {w w' : World} (x : GX R w w') (hR : R ≤ lo) : ∀ (p : Pc) (b : Nat), p.at_ lo w b → p.at_ lo w' b
 | .leaf op ps, b, h => by
  simp only [Pc.at_] at h ⊢
  obtain ⟨h1, h2, h3⟩ := h
  exact ⟨h1, Nat.lt_of_lt_of_le h2 x.size, h3.gx x h2 (by omega)⟩
 | .row l, b, h => by
  simp only [Pc.at_] at h ⊢
  obtain ⟨h1, h2, kids, bs, h3, h4, h5⟩ := h
  exact ⟨h1, Nat.lt_of_lt_of_le h2 x.size, kids, bs, h3.gx x h2 (by omega), h4.gx x hR, PcL.gx x hR l bs h5⟩
 | .ways l, b, h => by
  simp only [Pc.at_] at h ⊢
  obtain ⟨h1, h2, kids, bs, h3, h4, h5⟩ := h
  exact ⟨h1, Nat.lt_of_lt_of_le h2 x.size, kids, bs, h3.gx x h2 (by omega), h4.gx x hR, PcL.gx x hR l bs h5⟩
 | .group g k, b, h => by
  simp only [Pc.at_] at h ⊢
  obtain ⟨h1, h2, kids, bk, h3, h4, h5⟩ := h
  exact ⟨h1, Nat.lt_of_lt_of_le h2 x.size, kids, bk, h3.gx x h2 (by omega), h4.gx x hR, Pc.gx x hR k bk h5⟩
 | .rep op z k, b, h => by
  simp only [Pc.at_] at h ⊢
  obtain ⟨h1, h2, kids, bk, h3, h4, h5⟩ := h
  exact ⟨h1, Nat.lt_of_lt_of_le h2 x.size, kids, bk, h3.gx x h2 (by omega), h4.gx x hR, Pc.gx x hR k bk h5⟩
theorem PcL.gx {R lo : Nat} {w w' : World} (x : GX R w w') (hR : R ≤ lo) : ∀ (l : PcL) (bs : List Nat), l.at_ lo w bs → l.at_ lo w' bs
 | .nil, bs, h => by simpa only [PcL.at_] using h
 | .cons p l, bs, h => by
  simp only [PcL.at_] at h ⊢
  obtain ⟨b, r, e, h1, h2⟩ := h
  exact ⟨b, r, e, Pc.gx x hR p b h1, PcL.gx x hR l r h2⟩
end
theorem Pc.gr {lo : Nat} {w w' : World} (x : Gr w w') {p : Pc} {b : Nat} (h : p.at_ lo w b) : p.at_ lo w' b := Pc.gx (R := 0) (GX.of_gr x) (Nat.zero_le _) p b h
theorem PcL.gr {lo : Nat} {w w' : World} (x : Gr w w') {l : PcL} {bs : List Nat} (h : l.at_ lo w bs) : l.at_ lo w' bs := PcL.gx (R := 0) (GX.of_gr x) (Nat.zero_le _) l bs h

/-- The reader of an expression, in block R. -/
structure Rdr (w : World) (R : Nat) (s : ByteArray) (n : Nat) (q : Rs) : Prop where
 len : n + q.rest.length = s.size
 rest : s.data.toList.drop n = q.rest
 c0 : w.cell? ⟨R, 0, none⟩ = some (.string s)
 c1 : w.cell? ⟨R, 1, none⟩ = some (.int .i64 n)
 c2 : w.cell? ⟨R, 2, none⟩ = some (.int .i64 q.groups)
 c3 : w.cell? ⟨R, 3, none⟩ = some (.int .i64 q.deep)
 c4 : w.cell? ⟨R, 4, none⟩ = some (.bool q.bad)
 c5 : w.cell? ⟨R, 5, none⟩ = some (.bool q.over)
 f1 : w.frozen? ⟨R, 1, none⟩ = false
 f2 : w.frozen? ⟨R, 2, none⟩ = false
 f3 : w.frozen? ⟨R, 3, none⟩ = false
 f4 : w.frozen? ⟨R, 4, none⟩ = false
 f5 : w.frozen? ⟨R, 5, none⟩ = false
 lt : R < w.heap.size
theorem Rdr.gr {w w' : World} {R n : Nat} {s : ByteArray} {q : Rs} (h : Rdr w R s n q) (g : Gr w w') : Rdr w' R s n q :=
 ⟨h.len, h.rest, (g.cell (p := ⟨R, 0, none⟩) h.lt).trans h.c0, (g.cell (p := ⟨R, 1, none⟩) h.lt).trans h.c1, (g.cell (p := ⟨R, 2, none⟩) h.lt).trans h.c2, (g.cell (p := ⟨R, 3, none⟩) h.lt).trans h.c3, (g.cell (p := ⟨R, 4, none⟩) h.lt).trans h.c4, (g.cell (p := ⟨R, 5, none⟩) h.lt).trans h.c5,
  (g.frozen (p := ⟨R, 1, none⟩) h.lt).trans h.f1, (g.frozen (p := ⟨R, 2, none⟩) h.lt).trans h.f2, (g.frozen (p := ⟨R, 3, none⟩) h.lt).trans h.f3, (g.frozen (p := ⟨R, 4, none⟩) h.lt).trans h.f4, (g.frozen (p := ⟨R, 5, none⟩) h.lt).trans h.f5, Nat.lt_of_lt_of_le h.lt g.size⟩
end Go.Proofs.YtbdichmkgcngbaaGreat
namespace Go.Proofs.YtbdichmkgcngbaaGreat
set_option linter.unusedVariables false
set_option linter.unusedSimpArgs false
open Go.RowKit

def hasS : List UInt8 → Int → Bool
 | a :: b :: r, c => (decide ((a.toNat : Int) ≤ c) && decide (c ≤ (b.toNat : Int))) || hasS r c
 | [_], _ => false
 | [], _ => false
theorem hasS_yes {l : List UInt8} {c : Int} {k : Nat} (h : k + 1 < l.length) (h1 : (l[k].toNat : Int) ≤ c) (h2 : c ≤ (l[k + 1].toNat : Int)) : hasS (l.drop k) c = true := by
 rw [List.drop_eq_getElem_cons (by omega : k < l.length), List.drop_eq_getElem_cons h]
 simp only [hasS, h1, h2, decide_true, Bool.and_self, Bool.true_or]
theorem hasS_no {l : List UInt8} {c : Int} {k : Nat} (h : k + 1 < l.length) (h1 : ¬ ((l[k].toNat : Int) ≤ c ∧ c ≤ (l[k + 1].toNat : Int))) : hasS (l.drop k) c = hasS (l.drop (k + 2)) c := by
 rw [List.drop_eq_getElem_cons (by omega : k < l.length), List.drop_eq_getElem_cons h]
 have e : (decide ((l[k].toNat : Int) ≤ c) && decide (c ≤ (l[k + 1].toNat : Int))) = false := by
  rw [← Bool.decide_and]; exact decide_eq_false h1
 simp only [hasS, e, Bool.false_or]
theorem hasS_end {l : List UInt8} {c : Int} {k : Nat} (h : ¬ k + 1 < l.length) : hasS (l.drop k) c = false := by
 match e : l.drop k with
 | [] => rfl
 | [_] => rfl
 | a :: b :: r =>
  have := congrArg List.length e
  simp at this
  omega

set_option maxRecDepth 100000 in
set_option maxHeartbeats 3200000 in
theorem has_any (s : ByteArray) (hs : (s.size : Int) ≤ 9223372036854775800) (c : Int) (w : World) : Calls Tryz.prog 110 #[.string s, .int .u8 c] w fun e w' => e = .returned (.bool (hasS s.data.toList c)) ∧ w = w' := by
 obtain ⟨R, hR⟩ : ∃ R, R = hasS s.data.toList c := ⟨_, rfl⟩
 rw [← hR]
 have HR := Lib.hid hR
 clear hR
 go_enter Tryz.func110, Tryz.ntmps110
 go_wp2
 go_loop [5] (fun i => ∃ k : Nat, k ≤ s.size + 1 ∧ i = .int .i64 k ∧ R = hasS (s.data.toList.drop k) c) (fun i => s.size + 2 - (intOf i).toNat)
 case atStart => exact ⟨0, by omega, rfl, HR.out⟩
 case round =>
  obtain ⟨k, hk, rfl, hE⟩ := hrel
  have HE := Lib.hid hE
  clear hE
  by_cases hlt : k + 1 < s.size
  ·
   have hlt' : (k : Int) + 1 < (s.size : Int) := by omega
   have hk0 : k < s.size := by omega
   have hkl : k + 1 < s.data.toList.length := by simpa using hlt
   have e1 : s.data.toList[k]'(by omega) = s[k] := rfl
   have e2 : s.data.toList[k + 1] = s[k + 1] := rfl
   have HEE := Lib.hid (And.intro e1 e2)
   clear e1 e2
   by_cases h1 : ((s[k]).toNat : Int) ≤ c
   ·
    by_cases h2 : c ≤ ((s[k + 1]).toNat : Int)
    ·
     go_wp2
     go_ret
     have := hasS_yes (l := s.data.toList) (c := c) hkl (by rw [HEE.out.1]; exact h1) (by rw [HEE.out.2]; exact h2)
     rw [HE.out, this]
     exact ⟨rfl, rfl⟩
    ·
     go_wp2
     go_round
     case rel => exact ⟨k + 2, by omega, by go_num, by rw [HE.out]; exact hasS_no hkl (by rw [HEE.out.1, HEE.out.2]; exact fun h => absurd h.2 (by omega))⟩
     case measure => simp [intOf]; omega
   ·
    go_wp2
    go_round
    case rel => exact ⟨k + 2, by omega, by go_num, by rw [HE.out]; exact hasS_no hkl (by rw [HEE.out.1, HEE.out.2]; exact fun h => absurd h.1 (by omega))⟩
    case measure => simp [intOf]; omega
  ·
   have hge : ¬ (k : Int) + 1 < (s.size : Int) := by omega
   go_wp2
   go_ret
   have := hasS_end (l := s.data.toList) (c := c) (k := k) (by simpa using hlt)
   rw [HE.out, this]
   exact ⟨rfl, rfl⟩

set_option maxRecDepth 100000 in
set_option maxHeartbeats 3200000 in
theorem rhas_any (s : ByteArray) (hs : (s.size : Int) ≤ 9223372036854775800) (c : Int) (w : World) : Calls Tryz.prog 155 #[.string s, .int .u8 c] w fun e w' => e = .returned (.bool (hasS s.data.toList c)) ∧ w = w' := by
 obtain ⟨R, hR⟩ : ∃ R, R = hasS s.data.toList c := ⟨_, rfl⟩
 rw [← hR]
 have HR := Lib.hid hR
 clear hR
 go_enter Tryz.func155, Tryz.ntmps155
 go_wp2
 go_loop [5] (fun i => ∃ k : Nat, k ≤ s.size + 1 ∧ i = .int .i64 k ∧ R = hasS (s.data.toList.drop k) c) (fun i => s.size + 2 - (intOf i).toNat)
 case atStart => exact ⟨0, by omega, rfl, HR.out⟩
 case round =>
  obtain ⟨k, hk, rfl, hE⟩ := hrel
  have HE := Lib.hid hE
  clear hE
  by_cases hlt : k + 1 < s.size
  ·
   have hlt' : (k : Int) + 1 < (s.size : Int) := by omega
   have hk0 : k < s.size := by omega
   have hkl : k + 1 < s.data.toList.length := by simpa using hlt
   have e1 : s.data.toList[k]'(by omega) = s[k] := rfl
   have e2 : s.data.toList[k + 1] = s[k + 1] := rfl
   have HEE := Lib.hid (And.intro e1 e2)
   clear e1 e2
   by_cases h1 : ((s[k]).toNat : Int) ≤ c
   ·
    by_cases h2 : c ≤ ((s[k + 1]).toNat : Int)
    ·
     go_wp2
     go_ret
     have := hasS_yes (l := s.data.toList) (c := c) hkl (by rw [HEE.out.1]; exact h1) (by rw [HEE.out.2]; exact h2)
     rw [HE.out, this]
     exact ⟨rfl, rfl⟩
    ·
     go_wp2
     go_round
     case rel => exact ⟨k + 2, by omega, by go_num, by rw [HE.out]; exact hasS_no hkl (by rw [HEE.out.1, HEE.out.2]; exact fun h => absurd h.2 (by omega))⟩
     case measure => simp [intOf]; omega
   ·
    go_wp2
    go_round
    case rel => exact ⟨k + 2, by omega, by go_num, by rw [HE.out]; exact hasS_no hkl (by rw [HEE.out.1, HEE.out.2]; exact fun h => absurd h.1 (by omega))⟩
    case measure => simp [intOf]; omega
  ·
   have hge : ¬ (k : Int) + 1 < (s.size : Int) := by omega
   go_wp2
   go_ret
   have := hasS_end (l := s.data.toList) (c := c) (k := k) (by simpa using hlt)
   rw [HE.out, this]
   exact ⟨rfl, rfl⟩

end Go.Proofs.YtbdichmkgcngbaaGreat
namespace Go.Proofs.YtbdichmkgcngbaaGreat
set_option linter.unusedVariables false
set_option linter.unusedSimpArgs false
open Go.RowKit

/-- what an instruction at a place of the text leads to. -/
def succS (code : List In) (t : List UInt8) (pc : Int) (at' : Nat) : List (Int × Nat) :=
 if pc < 0 then [] else
 match code[pc.toNat]? with
 | none => []
 | some v =>
  if v.op = 1 then (if h : at' < t.length then (if hasS v.ps (t[at'].toNat : Int) then [(pc + 1, at' + 1)] else []) else [])
  else if v.op = 2 then [(v.y, at'), (v.x, at')]
  else if v.op = 3 then [(v.x, at')]
  else if v.op = 4 then [(pc + 1, at')]
  else if v.op = 5 then (if at' = 0 then [(pc + 1, at')] else [])
  else if v.op = 6 then (if at' = t.length then [(pc + 1, at')] else [])
  else []
/-- what is reached from the starts S. -/
inductive Rc (code : List In) (t : List UInt8) (S : Nat → Prop) : Int → Nat → Prop
 | start (p : Nat) : S p → p ≤ t.length → Rc code t S 0 p
 | step (pc : Int) (p : Nat) (q : Int × Nat) : Rc code t S pc p → q ∈ succS code t pc p → Rc code t S q.1 q.2
def InR (code : List In) (pc : Int) : Prop := 0 ≤ pc ∧ pc < code.length
/-- a Match is reached from the starts. -/
def AccS (code : List In) (t : List UInt8) (S : Nat → Prop) : Prop := ∃ (k : Nat) (p : Nat) (h : k < code.length), Rc code t S k p ∧ code[k].op = 7
open Classical in
/-- is it somewhere? -/
noncomputable def isC (code : List In) (t : List UInt8) : Bool := decide (AccS code t fun p => p ≤ t.length)
theorem Rc.le {code : List In} {t : List UInt8} {S : Nat → Prop} {pc : Int} {p : Nat} (h : Rc code t S pc p) : p ≤ t.length := by
 induction h with
 | start p _ hp => exact hp
 | step pc p q _ hq ih =>
  unfold succS at hq
  split at hq
  ·
   cases hq
  ·
   split at hq
   ·
    cases hq
   ·
    split at hq
    ·
     split at hq
     ·
      split at hq
      ·
       rw [List.mem_singleton] at hq; subst hq; simp only; omega
      ·
       cases hq
     ·
      cases hq
    ·
     split at hq
     ·
      simp only [List.mem_cons, List.not_mem_nil, or_false] at hq
      rcases hq with rfl | rfl <;> exact ih
     ·
      split at hq
      ·
       rw [List.mem_singleton] at hq; subst hq; exact ih
      ·
       split at hq
       ·
        rw [List.mem_singleton] at hq; subst hq; exact ih
       ·
        split at hq
        ·
         split at hq
         ·
          rw [List.mem_singleton] at hq; subst hq; exact ih
         ·
          cases hq
        ·
         split at hq
         ·
          split at hq
          ·
           rw [List.mem_singleton] at hq; subst hq; exact ih
          ·
           cases hq
         ·
          cases hq
theorem Rc.mono {code : List In} {t : List UInt8} {S S' : Nat → Prop} (hS : ∀ p, S p → S' p) {pc : Int} {p : Nat} (h : Rc code t S pc p) : Rc code t S' pc p := by
 induction h with
 | start p hp h => exact .start p (hS p hp) h
 | step pc p q _ hq ih => exact .step pc p q ih hq
theorem Rc.one {code : List In} {t : List UInt8} {S : Nat → Prop} {pc : Int} {p : Nat} (h : Rc code t S pc p) : ∃ i, S i ∧ i ≤ t.length ∧ Rc code t (· = i) pc p := by
 induction h with
 | start p hp h => exact ⟨p, hp, h, .start p rfl h⟩
 | step pc p q _ hq ih =>
  obtain ⟨i, h1, h2, h3⟩ := ih
  exact ⟨i, h1, h2, .step pc p q h3 hq⟩
/-- the successors by the instruction. -/
theorem succS_at {code : List In} {t : List UInt8} {k : Nat} (h : k < code.length) (p : Nat) : succS code t k p =
  (if code[k].op = 1 then (if h : p < t.length then (if hasS code[k].ps (t[p].toNat : Int) then [((k : Int) + 1, p + 1)] else []) else [])
  else if code[k].op = 2 then [(code[k].y, p), (code[k].x, p)]
  else if code[k].op = 3 then [(code[k].x, p)]
  else if code[k].op = 4 then [((k : Int) + 1, p)]
  else if code[k].op = 5 then (if p = 0 then [((k : Int) + 1, p)] else [])
  else if code[k].op = 6 then (if p = t.length then [((k : Int) + 1, p)] else [])
  else []) := by
 unfold succS
 rw [if_neg (by omega), Int.toNat_natCast, List.getElem?_eq_getElem h]
theorem succS_out {code : List In} {t : List UInt8} {pc : Int} (h : ¬ InR code pc) (p : Nat) : succS code t pc p = [] := by
 unfold succS
 split
 ·
  rfl
 ·
  rw [List.getElem?_eq_none]
  unfold InR at h
  omega
/-- A walk that has been everywhere: what is reached lies in 'seen', or no instruction stands there. -/
theorem Rc.all {code : List In} {t : List UInt8} {i : Nat} (seen : Nat → Nat → Prop) (h0 : InR code 0 → seen 0 i)
  (hc : ∀ k p, k < code.length → seen k p → ∀ q ∈ succS code t k p, InR code q.1 → seen q.1.toNat q.2) {pc : Int} {p : Nat} (h : Rc code t (· = i) pc p) : InR code pc → seen pc.toNat p := by
 induction h with
 | start p hp _ => intro hi; subst hp; exact h0 hi
 | step pc p q _ hq ih =>
  intro hi
  by_cases hpc : InR code pc
  ·
   have h1 := hpc.1
   have h2 := hpc.2
   have h3 := hc pc.toNat p (by omega) (ih hpc) q (by rw [Int.toNat_of_nonneg h1]; exact hq) hi
   exact h3
  ·
   rw [succS_out hpc] at hq
   cases hq
open Classical in
theorem acc_of {code : List In} {t : List UInt8} {i : Nat} (hi : i ≤ t.length) (h : AccS code t (· = i)) : isC code t = true := by
 obtain ⟨k, p, hk, h1, h2⟩ := h
 unfold isC
 exact decide_eq_true ⟨k, p, hk, h1.mono (fun _ e => e ▸ hi), h2⟩
open Classical in
theorem acc_not {code : List In} {t : List UInt8} (h : ∀ i, i ≤ t.length → ¬ AccS code t (· = i)) : isC code t = false := by
 unfold isC
 refine decide_eq_false ?_
 rintro ⟨k, p, hk, h1, h2⟩
 obtain ⟨i, -, hi, h3⟩ := h1.one
 exact h i hi ⟨k, p, hk, h3, h2⟩
end Go.Proofs.YtbdichmkgcngbaaGreat
namespace Go.Proofs.YtbdichmkgcngbaaGreat
set_option linter.unusedVariables false
set_option linter.unusedSimpArgs false
open Go.RowKit

/-- what an instruction leads to without a byte. -/
def succE (code : List In) (t : List UInt8) (k p : Nat) : List Int :=
 match code[k]? with
 | none => []
 | some v => if v.op = 1 then [] else (succS code t k p).map (·.1)
/-- seen instructions S, ways W, still to do T. Q: what may be reached here. -/
structure PkA (code : List In) (t : List UInt8) (p : Nat) (Q : Int → Prop) (S : Int → Bool) (W : List Nat) (T : List Int) : Prop where
 sT : ∀ x ∈ T, Q x
 sS : ∀ x, S x = true → Q x ∧ InR code x
 sW : ∀ k ∈ W, S k = true ∧ ∃ h : k < code.length, code[k].op = 1 ∨ code[k].op = 7
 cls : ∀ (k : Nat) (h : k < code.length), S k = true → (code[k].op = 1 ∨ code[k].op = 7 → k ∈ W) ∧ ∀ x ∈ succE code t k p, InR code x → S x = true ∨ x ∈ T
theorem PkA.none (code : List In) (t : List UInt8) (p : Nat) (Q : Int → Prop) : PkA code t p Q (fun _ => false) [] [] :=
 ⟨fun x h => (by cases h), fun x h => (by cases h), fun k h => (by cases h), fun k _ h => (by cases h)⟩
theorem PkA.first {code : List In} {t : List UInt8} {p : Nat} {Q : Int → Prop} {S : Int → Bool} {W : List Nat} (h : PkA code t p Q S W []) (x : Int) (hx : Q x) : PkA code t p Q S W [x] :=
 ⟨fun y hy => by rw [List.mem_singleton] at hy; subst hy; exact hx, h.sS, h.sW, fun k hk hs => ⟨(h.cls k hk hs).1, fun y hy hi => .inl (by rcases (h.cls k hk hs).2 y hy hi with h1 | h1; exact h1; cases h1)⟩⟩
theorem PkA.skip {code : List In} {t : List UInt8} {p : Nat} {Q : Int → Prop} {S : Int → Bool} {W : List Nat} {T : List Int} {x : Int} (h : PkA code t p Q S W (T ++ [x])) (hx : InR code x → S x = true) : PkA code t p Q S W T := by
 refine ⟨fun y hy => h.sT y (List.mem_append_left _ hy), h.sS, h.sW, fun k hk hs => ⟨(h.cls k hk hs).1, fun y hy hi => ?_⟩⟩
 rcases (h.cls k hk hs).2 y hy hi with h1 | h1
 ·
  exact .inl h1
 ·
  rcases List.mem_append.1 h1 with h2 | h2
  ·
   exact .inr h2
  ·
   rw [List.mem_singleton] at h2; subst h2; exact .inl (hx hi)
theorem PkA.visit {code : List In} {t : List UInt8} {p : Nat} {Q : Int → Prop} {S : Int → Bool} {W : List Nat} {T : List Int} {k : Nat} (h : PkA code t p Q S W (T ++ [(k : Int)])) (hk : k < code.length)
  (hQ : ∀ x, Q (k : Int) → x ∈ succE code t k p → Q x) : PkA code t p Q (fun a => a == (k : Int) || S a) (if code[k].op = 1 ∨ code[k].op = 7 then W ++ [k] else W) (T ++ succE code t k p) := by
 have hx : Q (k : Int) := h.sT _ (List.mem_append_right _ (List.mem_singleton.2 rfl))
 have hSk : ∀ y, S y = true → (y == (k : Int) || S y) = true := fun y hy => by rw [hy, Bool.or_true]
 have hW : ∀ j, j ∈ W → j ∈ (if code[k].op = 1 ∨ code[k].op = 7 then W ++ [k] else W) := fun j hj => by split <;> simp [hj]
 refine ⟨fun y hy => ?_, fun y hy => ?_, fun j hj => ?_, fun j hj hs => ?_⟩
 ·
  rcases List.mem_append.1 hy with h1 | h1
  ·
   exact h.sT y (List.mem_append_left _ h1)
  ·
   exact hQ y hx h1
 ·
  rw [Bool.or_eq_true] at hy
  rcases hy with h1 | h1
  ·
   have : y = k := by simpa using h1
   subst this
   exact ⟨hx, ⟨by omega, by omega⟩⟩
  ·
   exact h.sS y h1
 ·
  have hj' : j ∈ W ∨ (j = k ∧ (code[k].op = 1 ∨ code[k].op = 7)) := by
   split at hj
   ·
    rename_i ho
    rcases List.mem_append.1 hj with h1 | h1
    ·
     exact .inl h1
    ·
     exact .inr ⟨List.mem_singleton.1 h1, ho⟩
   ·
    exact .inl hj
  rcases hj' with h1 | ⟨rfl, ho⟩
  ·
   exact ⟨hSk _ (h.sW j h1).1, (h.sW j h1).2⟩
  ·
   exact ⟨by simp, hk, ho⟩
 ·
  by_cases e : j = k
  ·
   subst e
   refine ⟨fun ho => by rw [if_pos ho]; simp, fun y hy _ => .inr (List.mem_append_right _ hy)⟩
  ·
   have e2 : ((j : Int) == (k : Int)) = false := beq_eq_false_iff_ne.2 (by omega)
   rw [e2, Bool.false_or] at hs
   obtain ⟨h1, h2⟩ := h.cls j hj hs
   refine ⟨fun ho => hW j (h1 ho), fun y hy hi => ?_⟩
   rcases h2 y hy hi with h3 | h3
   ·
    exact .inl (hSk y h3)
   ·
    rcases List.mem_append.1 h3 with h4 | h4
    ·
     exact .inr (List.mem_append_left _ h4)
    ·
     rw [List.mem_singleton] at h4; subst h4; exact .inl (by simp)
theorem succE_at {code : List In} {t : List UInt8} {k : Nat} (h : k < code.length) (p : Nat) (h1 : code[k].op ≠ 1) : succE code t k p = (succS code t k p).map (·.1) := by
 unfold succE
 rw [List.getElem?_eq_getElem h]
 simp only
 rw [if_neg h1]
theorem succE_set {code : List In} {t : List UInt8} {k : Nat} (h : k < code.length) (p : Nat) (h1 : code[k].op = 1) : succE code t k p = [] := by
 unfold succE
 rw [List.getElem?_eq_getElem h]
 simp only
 rw [if_pos h1]
/-- without a byte the place stays. -/
theorem succS_stay {code : List In} {t : List UInt8} {k : Nat} (h : k < code.length) (p : Nat) (h1 : code[k].op ≠ 1) : ∀ q ∈ succS code t k p, q.2 = p := by
 intro q hq
 rw [succS_at h, if_neg h1] at hq
 split at hq
 ·
  simp only [List.mem_cons, List.not_mem_nil, or_false] at hq
  rcases hq with rfl | rfl <;> rfl
 ·
  split at hq
  ·
   rw [List.mem_singleton] at hq; subst hq; rfl
  ·
   split at hq
   ·
    rw [List.mem_singleton] at hq; subst hq; rfl
   ·
    split at hq
    ·
     split at hq
     ·
      rw [List.mem_singleton] at hq; subst hq; rfl
     ·
      cases hq
    ·
     split at hq
     ·
      split at hq
      ·
       rw [List.mem_singleton] at hq; subst hq; rfl
      ·
       cases hq
     ·
      cases hq
/-- what is reached goes on being reached. -/
theorem Rc.goes {code : List In} {t : List UInt8} {St : Nat → Prop} {k p : Nat} (h : Rc code t St k p) (x : Int) (hx : x ∈ succE code t k p) : Rc code t St x p := by
 by_cases hk : k < code.length
 ·
  by_cases h1 : code[k].op = 1
  ·
   rw [succE_set hk p h1] at hx; cases hx
  ·
   rw [succE_at hk p h1] at hx
   obtain ⟨q, hq, rfl⟩ := List.mem_map.1 hx
   have := Rc.step _ _ q h hq
   rw [succS_stay hk p h1 q hq] at this
   exact this
 ·
  unfold succE at hx
  rw [List.getElem?_eq_none (by omega)] at hx
  cases hx
/-- all that is reached at p is seen, if what is reached by a byte is, and the start. -/
theorem PkA.all {code : List In} {t : List UInt8} {p : Nat} {Q : Int → Prop} {S : Int → Bool} {W : List Nat} (h : PkA code t p Q S W []) (h0 : InR code 0 → S 0 = true)
  (hb : ∀ (k : Nat) (hk : k < code.length) (p' : Nat), p = p' + 1 → Rc code t (fun i => i ≤ t.length) k p' → code[k].op = 1 → ∀ q ∈ succS code t k p', InR code q.1 → S q.1 = true) {x : Int} {p0 : Nat}
  (hr : Rc code t (fun i => i ≤ t.length) x p0) : p0 = p → InR code x → S x = true := by
 induction hr with
 | start p1 _ _ => intro _ hi; exact h0 hi
 | step pc p1 q hr hq ih =>
  intro hp hi
  by_cases hpc : InR code pc
  ·
   obtain ⟨k, rfl⟩ : ∃ k : Nat, pc = k := ⟨pc.toNat, by have := hpc.1; omega⟩
   have hk : k < code.length := by have := hpc.2; omega
   by_cases h1 : code[k].op = 1
   ·
    have hp1 : q.2 = p1 + 1 := by
     rw [succS_at hk, if_pos h1] at hq
     split at hq
     ·
      split at hq
      ·
       rw [List.mem_singleton] at hq; subst hq; rfl
      ·
       cases hq
     ·
      cases hq
    exact hb k hk p1 (by omega) hr h1 q hq hi
   ·
    have hst := succS_stay hk p1 h1 q hq
    have hs := ih (by omega) hpc
    have hp1 : p1 = p := by omega
    subst hp1
    rcases (h.cls k hk hs).2 q.1 (by rw [succE_at hk _ h1]; exact List.mem_map.2 ⟨q, hq, rfl⟩) hi with h2 | h2
    ·
     exact h2
    ·
     cases h2
  ·
   rw [succS_out hpc] at hq
   cases hq
end Go.Proofs.YtbdichmkgcngbaaGreat
