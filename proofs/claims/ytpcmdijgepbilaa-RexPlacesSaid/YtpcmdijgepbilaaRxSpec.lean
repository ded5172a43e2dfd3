/- Chapter 11 in plain Lean: sets of bytes, their runs, how an expression is read as a tree, and how a tree is laid as instructions. No program in sight. -/
import Derived.WalkKit
namespace Go.Proofs.Ytpcmdijgepbilaa
set_option linter.unusedVariables false
set_option linter.unusedSimpArgs false
open Go.RowKit

/-- A set of bytes, asked below 256 alone. -/
abbrev Bs := Nat → Bool
def oneB (c : Nat) : Bs := fun i => i == c
def runB (a b : Nat) : Bs := fun i => Nat.ble a i && Nat.ble i b
def orB (f g : Bs) : Bs := fun i => f i || g i
def notB (f : Bs) : Bs := fun i => !f i
def noB : Bs := fun _ => false
def digB : Bs := runB 48 57
def wordB : Bs := orB (orB (orB digB (runB 97 122)) (runB 65 90)) (runB 95 95)
def spB : Bs := orB (runB 9 13) (runB 32 32)
/-- one of the six sets. -/
def namedB (c : Nat) : Option Bs :=
  bif c == 100 then some digB else bif c == 68 then some (notB digB) else
  bif c == 119 then some wordB else bif c == 87 then some (notB wordB) else
  bif c == 115 then some spB else bif c == 83 then some (notB spB) else none
def isWordB (c : Nat) : Bool := wordB c && !(c == 95)

/-- the runs of the first k bytes. -/
def pairsT (f : Bs) : Nat → List UInt8
  | 0 => []
  | k + 1 => pairsT f k ++ ((bif f k && (k == 0 || !f (k - 1)) then [UInt8.ofNat k] else []) ++ (bif f k && (k == 255 || !f (k + 1)) then [UInt8.ofNat k] else []))
def pairsS (f : Bs) : List UInt8 := pairsT f 256

/-- An instruction. -/
structure In where
  op : Int
  x : Int
  y : Int
  ps : List UInt8
deriving DecidableEq

mutual
/-- A piece of an expression. -/
inductive Pc where
  | leaf (op : Nat) (ps : List UInt8) : Pc
  | row (l : PcL) : Pc
  | ways (l : PcL) : Pc
  | group (g : Nat) (k : Pc) : Pc
  | rep (op : Nat) (lazy_ : Bool) (k : Pc) : Pc
inductive PcL where
  | nil : PcL
  | cons (p : Pc) (l : PcL) : PcL
end

def PcL.toList : PcL → List Pc
  | .nil => []
  | .cons p l => p :: l.toList
def PcL.ofList : List Pc → PcL
  | [] => .nil
  | p :: l => .cons p (.ofList l)
theorem PcL.to_of (l : List Pc) : (PcL.ofList l).toList = l := by
  induction l with
  | nil => rfl
  | cons p l ih => simp [PcL.ofList, PcL.toList, ih]

mutual
/-- how many instructions. -/
def Pc.sz : Pc → Nat
  | .leaf _ _ => 1
  | .row l => l.szR
  | .ways l => l.szW
  | .group g k => bif g == 0 then k.sz else k.sz + 2
  | .rep op _ k => bif op == 42 then k.sz + 2 else k.sz + 1
def PcL.szR : PcL → Nat
  | .nil => 0
  | .cons p l => p.sz + l.szR
def PcL.szW : PcL → Nat
  | .nil => 0
  | .cons p .nil => p.sz
  | .cons p (.cons q l) => p.sz + 2 + (PcL.cons q l).szW
end

def splitI (z : Bool) (x y : Int) : In := bif z then ⟨2, y, x, []⟩ else ⟨2, x, y, []⟩
mutual
/-- the instructions of a piece whose first one lies at a place. -/
def Pc.lay : Pc → Nat → List In
  | .leaf op ps, _ => [⟨op, 0, 0, ps⟩]
  | .row l, at_ => l.layR at_
  | .ways l, at_ => l.layW at_ (at_ + l.szW)
  | .group g k, at_ => bif g == 0 then k.lay at_ else ⟨4, 2 * g, 0, []⟩ :: (k.lay (at_ + 1) ++ [⟨4, 2 * g + 1, 0, []⟩])
  | .rep op z k, at_ =>
    bif op == 42 then splitI z (at_ + 1) (at_ + k.sz + 2) :: (k.lay (at_ + 1) ++ [⟨3, at_, 0, []⟩])
    else bif op == 43 then k.lay at_ ++ [splitI z at_ (at_ + k.sz + 1)]
    else splitI z (at_ + 1) (at_ + k.sz + 1) :: k.lay (at_ + 1)
def PcL.layR : PcL → Nat → List In
  | .nil, _ => []
  | .cons p l, at_ => p.lay at_ ++ l.layR (at_ + p.sz)
def PcL.layW : PcL → Nat → Nat → List In
  | .nil, _, _ => []
  | .cons p .nil, at_, _ => p.lay at_
  | .cons p (.cons q l), at_, e => ⟨2, at_ + 1, at_ + p.sz + 2, []⟩ :: (p.lay (at_ + 1) ++ (⟨3, e, 0, []⟩ :: (PcL.cons q l).layW (at_ + p.sz + 2) e))
end

/-- How far an expression is read: what is left of it, how many groups there are, how deep it is, whether it is none, whether it is too deep. -/
structure Rs where
  rest : List UInt8
  groups : Nat
  deep : Nat
  bad : Bool
  over : Bool

def headIs (c : Nat) : List UInt8 → Bool
  | [] => false
  | x :: _ => x.toNat == c
/-- what stands behind a stroke. -/
def escS : List UInt8 → Option Bs × List UInt8
  | [] => (none, [])
  | c :: r => match namedB c.toNat with
    | some f => (some f, r)
    | none => (bif isWordB c.toNat then none else some (oneB c.toNat), r)
def isNamed (c : Nat) : Bool := (namedB c).isSome
/-- a byte of a class, or one of the six. -/
def sideS : List UInt8 → Option (Bs × Nat × Bool) × List UInt8
  | [] => (none, [])
  | c :: r => bif c.toNat == 92 then (match r with
      | [] => (none, [])
      | d :: q => match escS (d :: q) with
        | (some f, _) => (some (f, d.toNat, isNamed d.toNat), q)
        | (none, _) => (none, q))
    else (some (oneB c.toNat, c.toNat, false), r)
def rangesS : List UInt8 → Bool
  | h :: d :: r => h.toNat == 45 && !(d.toNat == 93) && (!(d.toNat == 92) || (match r with | [] => true | e :: _ => !isNamed e.toNat))
  | _ => false
def clsS : Nat → Bool → Bs → List UInt8 → Option Bs × List UInt8
  | 0, _, _, r => (none, r)
  | k + 1, first, all, r =>
    bif first || !headIs 93 r then
      match sideS r with
      | (none, q) => (none, q)
      | (some (f, a, wide), q) =>
        bif !wide && rangesS q then
          match sideS (q.drop 1) with
          | (none, t) => (none, t)
          | (some (_, b, _), t) => bif Nat.blt b a then (none, t) else clsS k false (orB all (orB f (runB a b))) t
        else clsS k false (orB all f) q
    else (some all, r.drop 1)
def classS (r : List UInt8) : Option Bs × List UInt8 :=
  bif headIs 94 r then (match clsS r.length true noB (r.drop 1) with | (some f, q) => (some (notB f), q) | (none, q) => (none, q))
  else clsS (r.length + 1) true noB r

def failS (s : Rs) : Pc × Rs := (.row .nil, { s with bad := true })
def setS (s : Rs) (x : Option Bs × List UInt8) : Pc × Rs :=
  match x with
  | (some f, q) => (.leaf 1 (pairsS f), { s with rest := q })
  | (none, q) => failS { s with rest := q }
def openS (s : Rs) : Nat × Rs :=
  bif headIs 63 s.rest && headIs 58 (s.rest.drop 1) then (0, { s with rest := s.rest.drop 2 }) else (s.groups + 1, { s with groups := s.groups + 1 })
def groupS (W : Rs → Pc × Rs) (s : Rs) : Pc × Rs :=
  bif Nat.ble 64 s.deep then failS { s with deep := s.deep + 1, over := true }
  else
    let r := W (openS { s with deep := s.deep + 1 }).2
    bif r.2.bad || !headIs 41 r.2.rest then failS r.2
    else (.group (openS { s with deep := s.deep + 1 }).1 r.1, { r.2 with rest := r.2.rest.drop 1, deep := r.2.deep - 1 })
def stopC (c : Nat) : Bool := c == 124 || (c == 63 || (c == 42 || (c == 43 || c == 41)))
def atomS (W : Rs → Pc × Rs) (s : Rs) : Pc × Rs :=
  match s.rest with
  | [] => failS s
  | c :: r =>
    bif c.toNat == 40 then groupS W { s with rest := r }
    else bif c.toNat == 94 then (.leaf 5 [], { s with rest := r })
    else bif c.toNat == 36 then (.leaf 6 [], { s with rest := r })
    else bif c.toNat == 46 then (.leaf 1 (pairsS (notB (oneB 10))), { s with rest := r })
    else bif c.toNat == 91 then setS s (classS r)
    else bif c.toNat == 92 then setS s (escS r)
    else bif stopC c.toNat then failS { s with rest := r }
    else (.leaf 1 (pairsS (oneB c.toNat)), { s with rest := r })
def repC (c : Nat) : Bool := c == 42 || (c == 43 || c == 63)
def pieceS (W : Rs → Pc × Rs) (s : Rs) : Pc × Rs :=
  let r := atomS W s
  bif r.2.bad then r else
  match r.2.rest with
  | [] => r
  | c :: q => bif repC c.toNat then (.rep c.toNat (headIs 63 q) r.1, { r.2 with rest := bif headIs 63 q then q.drop 1 else q }) else r
def endR (r : List UInt8) : Bool := match r with | [] => true | c :: _ => c.toNat == 124 || c.toNat == 41
def rowS (W : Rs → Pc × Rs) : Nat → Rs → PcL × Rs
  | 0, s => (.nil, s)
  | k + 1, s => bif s.bad || endR s.rest then (.nil, s) else
    let r := pieceS W s
    let q := rowS W k r.2
    (.cons r.1 q.1, q.2)
def rowP (W : Rs → Pc × Rs) (s : Rs) : Pc × Rs := (.row (rowS W (s.rest.length + 1) s).1, (rowS W (s.rest.length + 1) s).2)
/-- ways, parted by strokes. -/
def altS (W : Rs → Pc × Rs) : Nat → Rs → PcL × Rs
  | 0, s => (.nil, s)
  | k + 1, s =>
    let r := rowP W s
    bif !r.2.bad && headIs 124 r.2.rest then
      let q := altS W k { r.2 with rest := r.2.rest.drop 1 }
      (.cons r.1 q.1, q.2)
    else (.cons r.1 .nil, r.2)
def lone : PcL → Pc
  | .cons p .nil => p
  | l => .ways l
def waysS : Nat → Rs → Pc × Rs
  | 0, s => failS s
  | n + 1, s => (lone (altS (waysS n) (s.rest.length + 1) s).1, (altS (waysS n) (s.rest.length + 1) s).2)
def readS (s : List UInt8) : Pc × Rs := waysS (s.length + 1) ⟨s, 0, 0, false, false⟩
/-- the error of an expression of fewer than 500 bytes; 0: none. -/
def errX (s : List UInt8) : Int :=
  bif (readS s).2.over then 12 else bif (readS s).2.bad || !(readS s).2.rest.isEmpty then 8 else 0
def codeX (s : List UInt8) : List In := ⟨4, 0, 0, []⟩ :: ((readS s).1.lay 1 ++ [⟨4, 1, 0, []⟩, ⟨7, 0, 0, []⟩])

-- a look
theorem known_a : codeX [97, 43] = [⟨4, 0, 0, []⟩, ⟨1, 0, 0, [97, 97]⟩, ⟨2, 1, 3, []⟩, ⟨4, 1, 0, []⟩, ⟨7, 0, 0, []⟩] ∧ errX [97, 43] = 0 := ⟨by kernel_rfl, by kernel_rfl⟩
end Go.Proofs.Ytpcmdijgepbilaa
