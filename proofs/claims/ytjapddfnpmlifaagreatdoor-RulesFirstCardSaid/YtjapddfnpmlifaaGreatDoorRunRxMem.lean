/- Memory of chapter 11: what leaves all but one block alone ('GX'), arrays of 256 bools ('bsA'), pieces of an expression as they lie in memory ('Pc.at'), slices of instructions. No program in sight. · Has of the program and of the reference: whether a byte is in one of the runs. · Where an expression is, plain: what an instruction leads to; what is reached; a Match. No program in sight. · Contracts of the sets of bytes of the program's package rex: a run of bytes is added, all other bytes, two sets as one, one byte, the six, is it a word's byte. -/
import Derived.Test.YtjapddfnpmlifaaGreatDoorRunRuRetR
import Derived.Test.YtjapddfnpmlifaaGreatDoorRunRuSize
import Derived.Lib.Hide
import Derived.Test.YtjapddfnpmlifaaGreatDoorProg
import Derived.WalkLawsBesides
import Derived.WalkSpells
import Derived.Deep.WholeRow
import Derived.Deep.Cut
import Derived.Deep.CutBlock
namespace Go.Proofs.YtjapddfnpmlifaaGreatDoor
set_option linter.unusedVariables false
set_option linter.unusedSimpArgs false
open Go.RowKit

/-- 256 bools. -/
def bsA (f : Bs) : Array Value := ((List.range 256).map fun i => Value.bool (f i)).toArray
theorem bsA_size (f : Bs) : (bsA f).size = 256 := by simp [bsA]
theorem bsA_at (f : Bs) {i : Nat} (h : i < 256) : (bsA f)[i]? = some (.bool (f i)) := by simp [bsA, h]
theorem bsA_eq {f g : Bs} (h : ∀ i, i < 256 → f i = g i) : bsA f = bsA g := by
 unfold bsA
 congr 1
 apply List.map_congr_left
 intro i hi
 rw [h i (by simpa using hi)]
theorem bsA_set (f : Bs) (c : Nat) (b : Bool) : (bsA f).setIfInBounds c (.bool b) = bsA (fun i => bif i == c then b else f i) := by
 apply Array.ext
 ·
  simp [bsA]
 ·
  intro i h1 h2
  simp only [bsA_size, Array.size_setIfInBounds] at h1 h2
  rw [Array.getElem_setIfInBounds]
  ·
   simp only [bsA, List.getElem_toArray, List.getElem_map, List.getElem_range]
   by_cases h : i = c
   ·
    subst h; simp
   ·
    have : (i == c) = false := by simpa using h
    simp [this, Ne.symm h]
  ·
   rw [bsA_size]; exact h1

/-- cells of instructions. -/
def icells (l : List In) : List Value := l.flatMap fun v => [.int .i64 v.op, .int .i64 v.x, .int .i64 v.y, .string ⟨v.ps.toArray⟩]
theorem icells_cons (v : In) (l : List In) : icells (v :: l) = .int .i64 v.op :: .int .i64 v.x :: .int .i64 v.y :: .string ⟨v.ps.toArray⟩ :: icells l := rfl
theorem icells_append (l m : List In) : icells (l ++ m) = icells l ++ icells m := by simp [icells]
theorem icells_length (l : List In) : (icells l).length = l.length * 4 := by
 induction l with
 | nil => rfl
 | cons v l ih => rw [icells_cons]; simp only [List.length_cons, ih]; omega
theorem icells_one (l : List In) : ∀ u ∈ icells l, u.oneCell' = true := by
 intro u hu
 simp only [icells, List.mem_flatMap] at hu
 obtain ⟨v, _, hv⟩ := hu
 simp at hv
 rcases hv with rfl | rfl | rfl | rfl <;> rfl
theorem icells_at (l : List In) : ∀ (k : Nat) (h : k < l.length), (icells l)[k * 4]? = some (.int .i64 l[k].op) ∧ (icells l)[k * 4 + 1]? = some (.int .i64 l[k].x) ∧ (icells l)[k * 4 + 2]? = some (.int .i64 l[k].y) ∧ (icells l)[k * 4 + 3]? = some (.string ⟨l[k].ps.toArray⟩) := by
 induction l with
 | nil => intro k h; simp at h
 | cons v l ih =>
  intro k h
  rw [icells_cons]
  match k, h with
  | 0, _ => exact ⟨rfl, rfl, rfl, rfl⟩
  | k + 1, h =>
   have hk : k < l.length := by simp only [List.length_cons] at h; omega
   have e : (k + 1) * 4 = k * 4 + 1 + 1 + 1 + 1 := by omega
   rw [e]
   obtain ⟨h0, h1, h2, h3⟩ := ih k hk
   refine ⟨?_, ?_, ?_, ?_⟩
   ·
    simpa only [List.getElem?_cons_succ, List.getElem_cons_succ] using h0
   ·
    simpa only [List.getElem?_cons_succ, List.getElem_cons_succ, Nat.add_right_comm _ 1] using h1
   ·
    rw [show k * 4 + 1 + 1 + 1 + 1 + 2 = k * 4 + 2 + 1 + 1 + 1 + 1 by omega]; simpa only [List.getElem?_cons_succ, List.getElem_cons_succ] using h2
   ·
    rw [show k * 4 + 1 + 1 + 1 + 1 + 3 = k * 4 + 3 + 1 + 1 + 1 + 1 by omega]; simpa only [List.getElem?_cons_succ, List.getElem_cons_succ] using h3
/-- The slice with the address A reads as the list l of instructions. -/
def Ri (w : World) (A : Option Addr) (l : List In) : Prop := Rd w 4 A l.length (icells l)
theorem Ri.gr {w w' : World} {A : Option Addr} {l : List In} (h : Ri w A l) (g : Gr w w') : Ri w' A l := Rd.gr h g
theorem Ri.at {w : World} {A : Option Addr} {l : List In} (h : Ri w A l) {k : Nat} (hk : k < l.length) :
  ∃ ad : Addr, A = some ad ∧ ad.block < w.heap.size ∧ w.cell? (ad.add (k * 4)) = some (.int .i64 l[k].op) ∧ w.cell? ⟨(ad.add (k * 4)).block, (ad.add (k * 4)).off + 1, none⟩ = some (.int .i64 l[k].x)
   ∧ w.cell? ⟨(ad.add (k * 4)).block, (ad.add (k * 4)).off + 2, none⟩ = some (.int .i64 l[k].y) ∧ w.cell? ⟨(ad.add (k * 4)).block, (ad.add (k * 4)).off + 3, none⟩ = some (.string ⟨l[k].ps.toArray⟩) := by
 obtain ⟨ad, e, hb, hc⟩ := h.2 (by omega)
 obtain ⟨h0, h1, h2, h3⟩ := icells_at l k hk
 exact ⟨ad, e, hb, hc _ _ h0, (congrArg w.cell? (add_next ad (k * 4) 0)).symm.trans (hc _ _ h1), (congrArg w.cell? (add_next ad (k * 4) 1)).symm.trans (hc _ _ h2), (congrArg w.cell? (add_next ad (k * 4) 2)).symm.trans (hc _ _ h3)⟩

/-- a piece's own five cells. -/
def Node (w : World) (b : Nat) (op : Nat) (ps : List UInt8) (kids : Value) (g : Nat) (z : Bool) : Prop :=
 w.cell? ⟨b, 0, none⟩ = some (.int .i64 op) ∧ w.cell? ⟨b, 1, none⟩ = some (.string ⟨ps.toArray⟩) ∧ w.cell? ⟨b, 2, none⟩ = some kids ∧ w.cell? ⟨b, 3, none⟩ = some (.int .i64 g) ∧ w.cell? ⟨b, 4, none⟩ = some (.bool z)
def ptrs (l : List Nat) : List Value := l.map fun b => .pointer (some ⟨b, 0, none⟩)
theorem ptrs_append (l m : List Nat) : ptrs (l ++ m) = ptrs l ++ ptrs m := by simp [ptrs]
/-- a slice of pointers to pieces, above block lo. -/
def Rk (lo : Nat) (w : World) (kids : Value) (bs : List Nat) : Prop :=
 ∃ A c, kids = .slice A bs.length c ∧ Rd w 1 A bs.length (ptrs bs) ∧ (0 < bs.length → ∀ ad, A = some ad → lo < ad.block)
mutual
/-- a piece lies at block b, all of it above block lo. -/
def Pc.at_ (lo : Nat) (w : World) : Pc → Nat → Prop
 | .leaf op ps, b => lo < b ∧ b < w.heap.size ∧ Node w b op ps (.slice none 0 0) 0 false
 | .row l, b => lo < b ∧ b < w.heap.size ∧ ∃ kids bs, Node w b 10 [] kids 0 false ∧ Rk lo w kids bs ∧ l.at_ lo w bs
 | .ways l, b => lo < b ∧ b < w.heap.size ∧ ∃ kids bs, Node w b 11 [] kids 0 false ∧ Rk lo w kids bs ∧ l.at_ lo w bs
 | .group g k, b => lo < b ∧ b < w.heap.size ∧ ∃ kids bk, Node w b 12 [] kids g false ∧ Rk lo w kids [bk] ∧ k.at_ lo w bk
 | .rep op z k, b => lo < b ∧ b < w.heap.size ∧ ∃ kids bk, Node w b op [] kids 0 z ∧ Rk lo w kids [bk] ∧ k.at_ lo w bk
def PcL.at_ (lo : Nat) (w : World) : PcL → List Nat → Prop
 | .nil, bs => bs = []
 | .cons p l, bs => ∃ b r, bs = b :: r ∧ p.at_ lo w b ∧ l.at_ lo w r
end
theorem Node.gx {R b op : Nat} {w w' : World} {ps : List UInt8} {kids : Value} {g : Nat} {z : Bool} (h : Node w b op ps kids g z) (x : GX R w w') (hb : b < w.heap.size) (hn : b ≠ R) : Node w' b op ps kids g z := by
 obtain ⟨h0, h1, h2, h3, h4⟩ := h
 exact ⟨(x.cell (p := ⟨b, 0, none⟩) hb hn).trans h0, (x.cell (p := ⟨b, 1, none⟩) hb hn).trans h1, (x.cell (p := ⟨b, 2, none⟩) hb hn).trans h2, (x.cell (p := ⟨b, 3, none⟩) hb hn).trans h3, (x.cell (p := ⟨b, 4, none⟩) hb hn).trans h4⟩
theorem Rd.gx {R size n : Nat} {w w' : World} {A : Option Addr} {xs : List Value} (h : Rd w size A n xs) (x : GX R w w') (hn : 0 < n → ∀ ad, A = some ad → ad.block ≠ R) : Rd w' size A n xs :=
 ⟨h.1, fun h0 => by
  obtain ⟨ad, e, hb, hc⟩ := h.2 h0
  exact ⟨ad, e, Nat.lt_of_lt_of_le hb x.size, fun j u hu => (x.cell (by rw [add_blk]; exact hb) (by rw [add_blk]; exact hn h0 ad e)).trans (hc j u hu)⟩⟩
theorem Rk.gx {R lo : Nat} {w w' : World} {kids : Value} {bs : List Nat} (h : Rk lo w kids bs) (x : GX R w w') (hR : R ≤ lo) : Rk lo w' kids bs := by
 obtain ⟨A, c, e, hr, hb⟩ := h
 exact ⟨A, c, e, hr.gx x (fun h0 ad ha => by have := hb h0 ad ha; omega), hb⟩
mutual
theorem Pc.gx {R lo : Nat} {w w' : World} (x : GX R w w') (hR : R ≤ lo) : ∀ (p : Pc) (b : Nat), p.at_ lo w b → p.at_ lo w' b
 | .leaf op ps, b, h => by
  simp only [Pc.at_] at h ⊢
  obtain ⟨h1, h2, h3⟩ := h
  exact ⟨h1, Nat.lt_of_lt_of_le h2 x.size, h3.gx x h2 (by omega)⟩
 | .row l, b, h => by
  simp only [Pc.at_] at h ⊢
  obtain ⟨h1, h2, kids, bs, h3, h4, h5⟩ := h
  exact ⟨h1, Nat.lt_of_lt_of_le h2 x.size, kids, bs, h3.gx x h2 (by omega), h4.gx x hR, PcL.gx x hR l bs h5⟩
 | .ways l, b, h => by
  simp only [Pc.at_] at h ⊢
  obtain ⟨h1, h2, kids, bs, h3, h4, h5⟩ := h
  exact ⟨h1, Nat.lt_of_lt_of_le h2 x.size, kids, bs, h3.gx x h2 (by omega), h4.gx x hR, PcL.gx x hR l bs h5⟩
 | .group g k, b, h => by
  simp only [Pc.at_] at h ⊢
  obtain ⟨h1, h2, kids, bk, h3, h4, h5⟩ := h
  exact ⟨h1, Nat.lt_of_lt_of_le h2 x.size, kids, bk, h3.gx x h2 (by omega), h4.gx x hR, Pc.gx x hR k bk h5⟩
 | .rep op z k, b, h => by
  simp only [Pc.at_] at h ⊢
  obtain ⟨h1, h2, kids, bk, h3, h4, h5⟩ := h
  exact ⟨h1, Nat.lt_of_lt_of_le h2 x.size, kids, bk, h3.gx x h2 (by omega), h4.gx x hR, Pc.gx x hR k bk h5⟩
theorem PcL.gx {R lo : Nat} {w w' : World} (x : GX R w w') (hR : R ≤ lo) : ∀ (l : PcL) (bs : List Nat), l.at_ lo w bs → l.at_ lo w' bs
 | .nil, bs, h => by simpa only [PcL.at_] using h
 | .cons p l, bs, h => by
  simp only [PcL.at_] at h ⊢
  obtain ⟨b, r, e, h1, h2⟩ := h
  exact ⟨b, r, e, Pc.gx x hR p b h1, PcL.gx x hR l r h2⟩
end
theorem Pc.gr {lo : Nat} {w w' : World} (x : Gr w w') {p : Pc} {b : Nat} (h : p.at_ lo w b) : p.at_ lo w' b := Pc.gx (R := 0) (GX.of_gr x) (Nat.zero_le _) p b h
theorem PcL.gr {lo : Nat} {w w' : World} (x : Gr w w') {l : PcL} {bs : List Nat} (h : l.at_ lo w bs) : l.at_ lo w' bs := PcL.gx (R := 0) (GX.of_gr x) (Nat.zero_le _) l bs h

/-- The reader of an expression, in block R. -/
structure Rdr (w : World) (R : Nat) (s : ByteArray) (n : Nat) (q : Rs) : Prop where
 len : n + q.rest.length = s.size
 rest : s.data.toList.drop n = q.rest
 c0 : w.cell? ⟨R, 0, none⟩ = some (.string s)
 c1 : w.cell? ⟨R, 1, none⟩ = some (.int .i64 n)
 c2 : w.cell? ⟨R, 2, none⟩ = some (.int .i64 q.groups)
 c3 : w.cell? ⟨R, 3, none⟩ = some (.int .i64 q.deep)
 c4 : w.cell? ⟨R, 4, none⟩ = some (.bool q.bad)
 c5 : w.cell? ⟨R, 5, none⟩ = some (.bool q.over)
 f1 : w.frozen? ⟨R, 1, none⟩ = false
 f2 : w.frozen? ⟨R, 2, none⟩ = false
 f3 : w.frozen? ⟨R, 3, none⟩ = false
 f4 : w.frozen? ⟨R, 4, none⟩ = false
 f5 : w.frozen? ⟨R, 5, none⟩ = false
 lt : R < w.heap.size
theorem Rdr.gr {w w' : World} {R n : Nat} {s : ByteArray} {q : Rs} (h : Rdr w R s n q) (g : Gr w w') : Rdr w' R s n q :=
 ⟨h.len, h.rest, (g.cell (p := ⟨R, 0, none⟩) h.lt).trans h.c0, (g.cell (p := ⟨R, 1, none⟩) h.lt).trans h.c1, (g.cell (p := ⟨R, 2, none⟩) h.lt).trans h.c2, (g.cell (p := ⟨R, 3, none⟩) h.lt).trans h.c3, (g.cell (p := ⟨R, 4, none⟩) h.lt).trans h.c4, (g.cell (p := ⟨R, 5, none⟩) h.lt).trans h.c5,
  (g.frozen (p := ⟨R, 1, none⟩) h.lt).trans h.f1, (g.frozen (p := ⟨R, 2, none⟩) h.lt).trans h.f2, (g.frozen (p := ⟨R, 3, none⟩) h.lt).trans h.f3, (g.frozen (p := ⟨R, 4, none⟩) h.lt).trans h.f4, (g.frozen (p := ⟨R, 5, none⟩) h.lt).trans h.f5, Nat.lt_of_lt_of_le h.lt g.size⟩
end Go.Proofs.YtjapddfnpmlifaaGreatDoor
namespace Go.Proofs.YtjapddfnpmlifaaGreatDoor
set_option linter.unusedVariables false
set_option linter.unusedSimpArgs false
open Go.RowKit

def hasS : List UInt8 → Int → Bool
 | a :: b :: r, c => (decide ((a.toNat : Int) ≤ c) && decide (c ≤ (b.toNat : Int))) || hasS r c
 | [_], _ => false
 | [], _ => false
theorem hasS_yes {l : List UInt8} {c : Int} {k : Nat} (h : k + 1 < l.length) (h1 : (l[k].toNat : Int) ≤ c) (h2 : c ≤ (l[k + 1].toNat : Int)) : hasS (l.drop k) c = true := by
 rw [List.drop_eq_getElem_cons (by omega : k < l.length), List.drop_eq_getElem_cons h]
 simp only [hasS, h1, h2, decide_true, Bool.and_self, Bool.true_or]
theorem hasS_no {l : List UInt8} {c : Int} {k : Nat} (h : k + 1 < l.length) (h1 : ¬ ((l[k].toNat : Int) ≤ c ∧ c ≤ (l[k + 1].toNat : Int))) : hasS (l.drop k) c = hasS (l.drop (k + 2)) c := by
 rw [List.drop_eq_getElem_cons (by omega : k < l.length), List.drop_eq_getElem_cons h]
 have e : (decide ((l[k].toNat : Int) ≤ c) && decide (c ≤ (l[k + 1].toNat : Int))) = false := by
  rw [← Bool.decide_and]; exact decide_eq_false h1
 simp only [hasS, e, Bool.false_or]
theorem hasS_end {l : List UInt8} {c : Int} {k : Nat} (h : ¬ k + 1 < l.length) : hasS (l.drop k) c = false := by
 match e : l.drop k with
 | [] => rfl
 | [_] => rfl
 | a :: b :: r =>
  have := congrArg List.length e
  simp at this
  omega

set_option maxRecDepth 100000 in
set_option maxHeartbeats 3200000 in
theorem has_any (s : ByteArray) (hs : (s.size : Int) ≤ 9223372036854775800) (c : Int) (w : World) : Calls Tryz.prog 90 #[.string s, .int .u8 c] w fun e w' => e = .returned (.bool (hasS s.data.toList c)) ∧ w = w' := by
 obtain ⟨R, hR⟩ : ∃ R, R = hasS s.data.toList c := ⟨_, rfl⟩
 rw [← hR]
 have HR := Lib.hid hR
 clear hR
 go_enter Tryz.func90, Tryz.ntmps90
 go_wp2
 go_loop [5] (fun i => ∃ k : Nat, k ≤ s.size + 1 ∧ i = .int .i64 k ∧ R = hasS (s.data.toList.drop k) c) (fun i => s.size + 2 - (intOf i).toNat)
 case atStart => exact ⟨0, by omega, rfl, HR.out⟩
 case round =>
  obtain ⟨k, hk, rfl, hE⟩ := hrel
  have HE := Lib.hid hE
  clear hE
  by_cases hlt : k + 1 < s.size
  ·
   have hlt' : (k : Int) + 1 < (s.size : Int) := by omega
   have hk0 : k < s.size := by omega
   have hkl : k + 1 < s.data.toList.length := by simpa using hlt
   have e1 : s.data.toList[k]'(by omega) = s[k] := rfl
   have e2 : s.data.toList[k + 1] = s[k + 1] := rfl
   have HEE := Lib.hid (And.intro e1 e2)
   clear e1 e2
   by_cases h1 : ((s[k]).toNat : Int) ≤ c
   ·
    by_cases h2 : c ≤ ((s[k + 1]).toNat : Int)
    ·
     go_wp2
     go_ret
     have := hasS_yes (l := s.data.toList) (c := c) hkl (by rw [HEE.out.1]; exact h1) (by rw [HEE.out.2]; exact h2)
     rw [HE.out, this]
     exact ⟨rfl, rfl⟩
    ·
     go_wp2
     go_round
     case rel => exact ⟨k + 2, by omega, by go_num, by rw [HE.out]; exact hasS_no hkl (by rw [HEE.out.1, HEE.out.2]; exact fun h => absurd h.2 (by omega))⟩
     case measure => simp [intOf]; omega
   ·
    go_wp2
    go_round
    case rel => exact ⟨k + 2, by omega, by go_num, by rw [HE.out]; exact hasS_no hkl (by rw [HEE.out.1, HEE.out.2]; exact fun h => absurd h.1 (by omega))⟩
    case measure => simp [intOf]; omega
  ·
   have hge : ¬ (k : Int) + 1 < (s.size : Int) := by omega
   go_wp2
   go_ret
   have := hasS_end (l := s.data.toList) (c := c) (k := k) (by simpa using hlt)
   rw [HE.out, this]
   exact ⟨rfl, rfl⟩

set_option maxRecDepth 100000 in
set_option maxHeartbeats 3200000 in
theorem rhas_any (s : ByteArray) (hs : (s.size : Int) ≤ 9223372036854775800) (c : Int) (w : World) : Calls Tryz.prog 130 #[.string s, .int .u8 c] w fun e w' => e = .returned (.bool (hasS s.data.toList c)) ∧ w = w' := by
 obtain ⟨R, hR⟩ : ∃ R, R = hasS s.data.toList c := ⟨_, rfl⟩
 rw [← hR]
 have HR := Lib.hid hR
 clear hR
 go_enter Tryz.func130, Tryz.ntmps130
 go_wp2
 go_loop [5] (fun i => ∃ k : Nat, k ≤ s.size + 1 ∧ i = .int .i64 k ∧ R = hasS (s.data.toList.drop k) c) (fun i => s.size + 2 - (intOf i).toNat)
 case atStart => exact ⟨0, by omega, rfl, HR.out⟩
 case round =>
  obtain ⟨k, hk, rfl, hE⟩ := hrel
  have HE := Lib.hid hE
  clear hE
  by_cases hlt : k + 1 < s.size
  ·
   have hlt' : (k : Int) + 1 < (s.size : Int) := by omega
   have hk0 : k < s.size := by omega
   have hkl : k + 1 < s.data.toList.length := by simpa using hlt
   have e1 : s.data.toList[k]'(by omega) = s[k] := rfl
   have e2 : s.data.toList[k + 1] = s[k + 1] := rfl
   have HEE := Lib.hid (And.intro e1 e2)
   clear e1 e2
   by_cases h1 : ((s[k]).toNat : Int) ≤ c
   ·
    by_cases h2 : c ≤ ((s[k + 1]).toNat : Int)
    ·
     go_wp2
     go_ret
     have := hasS_yes (l := s.data.toList) (c := c) hkl (by rw [HEE.out.1]; exact h1) (by rw [HEE.out.2]; exact h2)
     rw [HE.out, this]
     exact ⟨rfl, rfl⟩
    ·
     go_wp2
     go_round
     case rel => exact ⟨k + 2, by omega, by go_num, by rw [HE.out]; exact hasS_no hkl (by rw [HEE.out.1, HEE.out.2]; exact fun h => absurd h.2 (by omega))⟩
     case measure => simp [intOf]; omega
   ·
    go_wp2
    go_round
    case rel => exact ⟨k + 2, by omega, by go_num, by rw [HE.out]; exact hasS_no hkl (by rw [HEE.out.1, HEE.out.2]; exact fun h => absurd h.1 (by omega))⟩
    case measure => simp [intOf]; omega
  ·
   have hge : ¬ (k : Int) + 1 < (s.size : Int) := by omega
   go_wp2
   go_ret
   have := hasS_end (l := s.data.toList) (c := c) (k := k) (by simpa using hlt)
   rw [HE.out, this]
   exact ⟨rfl, rfl⟩

end Go.Proofs.YtjapddfnpmlifaaGreatDoor
namespace Go.Proofs.YtjapddfnpmlifaaGreatDoor
set_option linter.unusedVariables false
set_option linter.unusedSimpArgs false
open Go.RowKit

/-- what an instruction at a place of the text leads to. -/
def succS (code : List In) (t : List UInt8) (pc : Int) (at' : Nat) : List (Int × Nat) :=
 if pc < 0 then [] else
 match code[pc.toNat]? with
 | none => []
 | some v =>
  if v.op = 1 then (if h : at' < t.length then (if hasS v.ps (t[at'].toNat : Int) then [(pc + 1, at' + 1)] else []) else [])
  else if v.op = 2 then [(v.y, at'), (v.x, at')]
  else if v.op = 3 then [(v.x, at')]
  else if v.op = 4 then [(pc + 1, at')]
  else if v.op = 5 then (if at' = 0 then [(pc + 1, at')] else [])
  else if v.op = 6 then (if at' = t.length then [(pc + 1, at')] else [])
  else []
/-- what is reached from the starts S. -/
inductive Rc (code : List In) (t : List UInt8) (S : Nat → Prop) : Int → Nat → Prop
 | start (p : Nat) : S p → p ≤ t.length → Rc code t S 0 p
 | step (pc : Int) (p : Nat) (q : Int × Nat) : Rc code t S pc p → q ∈ succS code t pc p → Rc code t S q.1 q.2
def InR (code : List In) (pc : Int) : Prop := 0 ≤ pc ∧ pc < code.length
/-- a Match is reached from the starts. -/
def AccS (code : List In) (t : List UInt8) (S : Nat → Prop) : Prop := ∃ (k : Nat) (p : Nat) (h : k < code.length), Rc code t S k p ∧ code[k].op = 7
open Classical in
/-- is it somewhere? -/
noncomputable def isC (code : List In) (t : List UInt8) : Bool := decide (AccS code t fun p => p ≤ t.length)
theorem Rc.le {code : List In} {t : List UInt8} {S : Nat → Prop} {pc : Int} {p : Nat} (h : Rc code t S pc p) : p ≤ t.length := by
 induction h with
 | start p _ hp => exact hp
 | step pc p q _ hq ih =>
  unfold succS at hq
  split at hq
  ·
   cases hq
  ·
   split at hq
   ·
    cases hq
   ·
    split at hq
    ·
     split at hq
     ·
      split at hq
      ·
       rw [List.mem_singleton] at hq; subst hq; simp only; omega
      ·
       cases hq
     ·
      cases hq
    ·
     split at hq
     ·
      simp only [List.mem_cons, List.not_mem_nil, or_false] at hq
      rcases hq with rfl | rfl <;> exact ih
     ·
      split at hq
      ·
       rw [List.mem_singleton] at hq; subst hq; exact ih
      ·
       split at hq
       ·
        rw [List.mem_singleton] at hq; subst hq; exact ih
       ·
        split at hq
        ·
         split at hq
         ·
          rw [List.mem_singleton] at hq; subst hq; exact ih
         ·
          cases hq
        ·
         split at hq
         ·
          split at hq
          ·
           rw [List.mem_singleton] at hq; subst hq; exact ih
          ·
           cases hq
         ·
          cases hq
theorem Rc.mono {code : List In} {t : List UInt8} {S S' : Nat → Prop} (hS : ∀ p, S p → S' p) {pc : Int} {p : Nat} (h : Rc code t S pc p) : Rc code t S' pc p := by
 induction h with
 | start p hp h => exact .start p (hS p hp) h
 | step pc p q _ hq ih => exact .step pc p q ih hq
theorem Rc.one {code : List In} {t : List UInt8} {S : Nat → Prop} {pc : Int} {p : Nat} (h : Rc code t S pc p) : ∃ i, S i ∧ i ≤ t.length ∧ Rc code t (· = i) pc p := by
 induction h with
 | start p hp h => exact ⟨p, hp, h, .start p rfl h⟩
 | step pc p q _ hq ih =>
  obtain ⟨i, h1, h2, h3⟩ := ih
  exact ⟨i, h1, h2, .step pc p q h3 hq⟩
/-- the successors by the instruction. -/
theorem succS_at {code : List In} {t : List UInt8} {k : Nat} (h : k < code.length) (p : Nat) : succS code t k p =
  (if code[k].op = 1 then (if h : p < t.length then (if hasS code[k].ps (t[p].toNat : Int) then [((k : Int) + 1, p + 1)] else []) else [])
  else if code[k].op = 2 then [(code[k].y, p), (code[k].x, p)]
  else if code[k].op = 3 then [(code[k].x, p)]
  else if code[k].op = 4 then [((k : Int) + 1, p)]
  else if code[k].op = 5 then (if p = 0 then [((k : Int) + 1, p)] else [])
  else if code[k].op = 6 then (if p = t.length then [((k : Int) + 1, p)] else [])
  else []) := by
 unfold succS
 rw [if_neg (by omega), Int.toNat_natCast, List.getElem?_eq_getElem h]
theorem succS_out {code : List In} {t : List UInt8} {pc : Int} (h : ¬ InR code pc) (p : Nat) : succS code t pc p = [] := by
 unfold succS
 split
 ·
  rfl
 ·
  rw [List.getElem?_eq_none]
  unfold InR at h
  omega
/-- A walk that has been everywhere: what is reached lies in 'seen', or no instruction stands there. -/
theorem Rc.all {code : List In} {t : List UInt8} {i : Nat} (seen : Nat → Nat → Prop) (h0 : InR code 0 → seen 0 i)
  (hc : ∀ k p, k < code.length → seen k p → ∀ q ∈ succS code t k p, InR code q.1 → seen q.1.toNat q.2) {pc : Int} {p : Nat} (h : Rc code t (· = i) pc p) : InR code pc → seen pc.toNat p := by
 induction h with
 | start p hp _ => intro hi; subst hp; exact h0 hi
 | step pc p q _ hq ih =>
  intro hi
  by_cases hpc : InR code pc
  ·
   have h1 := hpc.1
   have h2 := hpc.2
   have h3 := hc pc.toNat p (by omega) (ih hpc) q (by rw [Int.toNat_of_nonneg h1]; exact hq) hi
   exact h3
  ·
   rw [succS_out hpc] at hq
   cases hq
open Classical in
theorem acc_of {code : List In} {t : List UInt8} {i : Nat} (hi : i ≤ t.length) (h : AccS code t (· = i)) : isC code t = true := by
 obtain ⟨k, p, hk, h1, h2⟩ := h
 unfold isC
 exact decide_eq_true ⟨k, p, hk, h1.mono (fun _ e => e ▸ hi), h2⟩
open Classical in
theorem acc_not {code : List In} {t : List UInt8} (h : ∀ i, i ≤ t.length → ¬ AccS code t (· = i)) : isC code t = false := by
 unfold isC
 refine decide_eq_false ?_
 rintro ⟨k, p, hk, h1, h2⟩
 obtain ⟨i, -, hi, h3⟩ := h1.one
 exact h i hi ⟨k, p, hk, h3, h2⟩
end Go.Proofs.YtjapddfnpmlifaaGreatDoor
namespace Go.Proofs.YtjapddfnpmlifaaGreatDoor
open Go.RowKit
set_option linter.unusedVariables false
set_option linter.unusedSimpArgs false

theorem info_set : (Tryz.prog.info? 219).map (fun i => (i.zero, i.size)) = some (some (.agg (bsA noB)), 256) := by kernel_rfl
/-- block g holds a set. -/
def SetAt (w : World) (g : Nat) (f : Bs) : Prop := w.heap[g]? = some (.cells (bsA f) 219 (0, 0))
theorem SetAt.cell {w : World} {g : Nat} {f : Bs} (h : SetAt w g f) {i : Nat} (hi : i < 256) : w.cell? ⟨g, i, none⟩ = some (.bool (f i)) :=
 (cell_of_row w g i _ _ _ h).trans (bsA_at f hi)
theorem SetAt.free {w : World} {g : Nat} {f : Bs} (h : SetAt w g f) (i : Nat) : w.frozen? ⟨g, i, none⟩ = false := frozen_of_row w g i _ _ h
theorem SetAt.set {w : World} {g : Nat} {f : Bs} (h : SetAt w g f) (i : Nat) (b : Bool) : SetAt (w.setCell ⟨g, i, none⟩ (.bool b)) g (fun k => bif k == i then b else f k) :=
 (heap_setCell_same w g i _ _ (.bool b) h).trans (by rw [bsA_set])
theorem SetAt.lt {w : World} {g : Nat} {f : Bs} (h : SetAt w g f) : g < w.heap.size := (Array.getElem?_eq_some_iff.1 h).1
theorem SetAt.eq {w : World} {g : Nat} {f h : Bs} (k : SetAt w g f) (e : ∀ i, i < 256 → f i = h i) : SetAt w g h := by unfold SetAt; rw [← bsA_eq e]; exact k
theorem SetAt.gr {w w' : World} {g : Nat} {f : Bs} (h : SetAt w g f) (x : Gr w w') : SetAt w' g f := (Below.block x g h.lt).trans h
theorem SetAt.gx {w w' : World} {g R : Nat} {f : Bs} (h : SetAt w g f) (x : GX R w w') (hn : g ≠ R) : SetAt w' g f := (x.block g h.lt hn).trans h
theorem SetAt.other {w : World} {g : Nat} {f : Bs} (h : SetAt w g f) {p : Addr} (hn : g ≠ p.block) (u : Value) : SetAt (w.setCell p u) g f := (heap_setCell_other w p g u hn).trans h
theorem SetAt.new (w : World) (f : Bs) : SetAt (w.alloc (.cells (bsA f) 219)) w.heap.size f := heap_alloc_new w _

def upB (a c : Nat) : Bs := fun i => Nat.ble a i && Nat.blt i c

set_option maxRecDepth 100000 in
set_option maxHeartbeats 1600000 in
theorem adds_any (g : Nat) (f : Bs) (a b : Nat) (w : World) (ha : a < 256) (hb : b < 256) (hg : SetAt w g f) :
  Calls Tryz.prog 164 #[.pointer (some ⟨g, 0, none⟩), .int .u8 a, .int .u8 b] w fun e w' => e = .returned (.tuple #[]) ∧ GX g w w' ∧ SetAt w' g (orB f (runB a b)) := by
 have h1 : (a : Int) < 256 := by omega
 have h2 : (b : Int) < 256 := by omega
 go_enter Tryz.func164, Tryz.ntmps164
 go_wp2
 go_loopw [6] (fun i wr => ∃ c : Nat, a ≤ c ∧ c ≤ max a (b + 1) ∧ i = .int .i64 c ∧ GX g w wr ∧ SetAt wr g (orB f (upB a c))) (fun i _ => (b + 1) - (intOf i).toNat)
 case atStart =>
  refine ⟨a, Nat.le_refl _, by omega, rfl, GX.refl _ _, hg.eq fun i _ => ?_⟩
  have : (Nat.ble a i && Nat.blt i a) = false := by rw [Bool.eq_false_iff]; intro h; simp at h; omega
  simp [orB, upB, this]
 case round =>
  obtain ⟨c, hac, hcb, rfl, hgx, hs⟩ := hrel
  by_cases hlt : c ≤ b
  ·
   have hc := hs.cell (i := c) (by omega)
   have hf := hs.free c
   have h3 : (c : Int) < 256 := by omega
   have HS := hs.set c true
   have HG := GX.setCell hgx (p := ⟨g, c, none⟩) (.inl rfl) (.bool true)
   go_wp2
   go_roundw
   case rel =>
    refine ⟨c + 1, by omega, by omega, by go_num, HG, HS.eq fun i _ => ?_⟩
    unfold orB upB
    by_cases hi : i = c
    ·
     subst hi; simp; omega
    ·
     have : (i == c) = false := by simpa using hi
     simp only [this, cond_false]
     congr 1
     rw [Bool.eq_iff_iff]; simp; omega
   case measure => simp [intOf]; omega
  ·
   have hgt : ¬ ((c : Int) ≤ b) := by omega
   go_wp2
   go_end0
   refine ⟨rfl, hgx, hs.eq fun i _ => ?_⟩
   unfold orB upB runB
   congr 1
   rw [Bool.eq_iff_iff]; simp; omega
theorem und_set : Tryz.prog.underlying 219 = some (.array 256 4) := by kernel_rfl
theorem size_set : (Tryz.prog.info? 219).map (·.size) = some 256 := (zero_of_info info_set).2
theorem bsA_one (f : Bs) : (bsA f).all (·.oneCell') = true := by
 rw [Array.all_eq_true_iff_forall_mem]
 intro v hv
 simp only [bsA, List.mem_toArray, List.mem_map] at hv
 obtain ⟨i, _, rfl⟩ := hv
 rfl
theorem size_bsA (f : Bs) : (Tryz.prog.info? 219).map (·.size) = some (bsA f).size := by rw [bsA_size]; exact size_set
theorem SetAt.row {w : World} {g : Nat} {f h : Bs} (k : SetAt w g h) : SetAt (w.setRow g (bsA f)) g f := setRow_heap w g (bsA h) (bsA f) _ _ k
theorem GX.setRow {R : Nat} {a w : World} (h : GX R a w) {g : Nat} (hp : g = R ∨ a.heap.size ≤ g) (cs : Array Value) : GX R a (w.setRow g cs) :=
 ⟨h.os, h.tape, h.output, by simpa using h.size, fun k hk hn => (setRow_other w g k cs (by omega)).trans (h.block k hk hn)⟩
theorem Gr.setRow {a w : World} (h : Gr a w) {g : Nat} (hp : a.heap.size ≤ g) (cs : Array Value) : Gr a (w.setRow g cs) :=
 ⟨h.os, h.tape, h.output, by simpa using h.size, fun k hk => (setRow_other w g k cs (by omega)).trans (Below.block h k hk)⟩

set_option maxRecDepth 100000 in
set_option maxHeartbeats 1600000 in
theorem not_any (f : Bs) (w : World) :
  Calls Tryz.prog 154 #[.agg (bsA f)] w fun e w' => e = .returned (.agg (bsA (notB f))) ∧ Gr w w' := by
 obtain ⟨hz, hsz⟩ := zero_of_info info_set
 have g0 : Gr w ((w.alloc (Obj.cells (bsA f) 219)).alloc (Obj.cells (bsA noB) 219)) := (by repeat (first | exact Gr.refl _ | refine Gr.alloc ?_ _ | refine Gr.drew ?_ | refine Gr.setCell ?_ (by first | (simp; done) | (simp; omega) | omega) _ | refine Gr.trans ?_ (by assumption)))
 have s0 : SetAt ((w.alloc (Obj.cells (bsA f) 219)).alloc (Obj.cells (bsA noB) 219)) w.heap.size f := (SetAt.new w f).gr (Gr.alloc (Gr.refl _) _)
 have s1 : SetAt ((w.alloc (Obj.cells (bsA f) 219)).alloc (Obj.cells (bsA noB) 219)) (w.heap.size + 1) noB := by
  have := SetAt.new (w.alloc (Obj.cells (bsA f) 219)) noB
  simpa using this
 go_enter Tryz.func154, Tryz.ntmps154
 go_wp2
 generalize ((w.alloc (Obj.cells (bsA f) 219)).alloc (Obj.cells (bsA noB) 219)) = w0 at g0 s0 s1 ⊢
 clear hz hsz
 go_loopw [4] (fun i wr => ∃ c : Nat, c ≤ 256 ∧ i = .int .i64 c ∧ Gr w wr ∧ SetAt wr w.heap.size (fun k => bif decide (k < c) then !f k else f k) ∧ SetAt wr (w.heap.size + 1) noB) (fun i _ => 256 - (intOf i).toNat)
 case atStart => exact ⟨0, by omega, rfl, g0, s0, s1⟩
 case round =>
  clear g0 s0 s1
  obtain ⟨c, hc, rfl, hgr, hs, ht⟩ := hrel
  by_cases hlt : c < 256
  ·
   have h3 : (c : Int) < 256 := by omega
   have hcell := hs.cell hlt
   rw [show (bif decide (c < c) then !f c else f c) = f c by simp] at hcell
   have hf := hs.free c
   have HS := hs.set c (!f c)
   have HT := ht.other (p := ⟨w.heap.size, c, none⟩) (by simp) (.bool (!f c))
   have HG := Gr.setCell hgr (p := ⟨w.heap.size, c, none⟩) (Nat.le_refl _) (.bool (!f c))
   go_wp2
   go_roundw
   case rel =>
    refine ⟨c + 1, by omega, by go_num, HG, HS.eq fun i _ => ?_, HT⟩
    by_cases hi : i = c
    ·
     subst hi; simp
    ·
     have e1 : (i == c) = false := by simpa using hi
     have e2 : decide (i < c + 1) = decide (i < c) := by rw [decide_eq_decide]; omega
     simp only [e1, cond_false, e2]
   case measure => simp [intOf]; omega
  ·
   have hc' : c = 256 := by omega
   subst hc'
   have hs' : SetAt wr w.heap.size (notB f) := hs.eq fun i hi => by simp [notB, hi]
   clear hs
   go_wp2_with (first
    | (refine wpList_load_row rfl 219 (.tmp 1) rfl w.heap.size rfl _ (bsA (notB f)) (0, 0) _ hs' und_set rfl (size_bsA _) ?_)
    | (refine wpList_store_row rfl 219 (.tmp 2) (.tmp 14) rfl (w.heap.size + 1) (bsA (notB f)) rfl rfl _ _ ht (size_bsA _) (by simp only [bsA_size]) (bsA_one _) ?_))
   refine bodyPost_ret (v := .agg (bsA (notB f))) (results_cell_row (p := 2) (by kernel_rfl) _ _ (w.heap.size + 1) _ _ (0, 0) _ rfl (SetAt.row ht) und_set rfl (size_bsA _)) rfl ⟨rfl, Gr.setRow hgr (by omega) _⟩

set_option maxRecDepth 100000 in
set_option maxHeartbeats 1600000 in
theorem with_any (f h : Bs) (w : World) :
  Calls Tryz.prog 165 #[.agg (bsA f), .agg (bsA h)] w fun e w' => e = .returned (.agg (bsA (orB f h))) ∧ Gr w w' := by
 obtain ⟨hz, hsz⟩ := zero_of_info info_set
 have g0 : Gr w (((w.alloc (Obj.cells (bsA f) 219)).alloc (Obj.cells (bsA h) 219)).alloc (Obj.cells (bsA noB) 219)) := (by repeat (first | exact Gr.refl _ | refine Gr.alloc ?_ _ | refine Gr.drew ?_ | refine Gr.setCell ?_ (by first | (simp; done) | (simp; omega) | omega) _ | refine Gr.trans ?_ (by assumption)))
 have s0 : SetAt (((w.alloc (Obj.cells (bsA f) 219)).alloc (Obj.cells (bsA h) 219)).alloc (Obj.cells (bsA noB) 219)) w.heap.size f := (SetAt.new w f).gr (Gr.alloc (Gr.alloc (Gr.refl _) _) _)
 have s2 : SetAt (((w.alloc (Obj.cells (bsA f) 219)).alloc (Obj.cells (bsA h) 219)).alloc (Obj.cells (bsA noB) 219)) (w.heap.size + 1) h := by
  have := (SetAt.new (w.alloc (Obj.cells (bsA f) 219)) h).gr (Gr.alloc (Gr.refl _) (Obj.cells (bsA noB) 219))
  simpa using this
 have s1 : SetAt (((w.alloc (Obj.cells (bsA f) 219)).alloc (Obj.cells (bsA h) 219)).alloc (Obj.cells (bsA noB) 219)) (w.heap.size + 1 + 1) noB := by
  have := SetAt.new ((w.alloc (Obj.cells (bsA f) 219)).alloc (Obj.cells (bsA h) 219)) noB
  simpa using this
 go_enter Tryz.func165, Tryz.ntmps165
 go_wp2
 generalize (((w.alloc (Obj.cells (bsA f) 219)).alloc (Obj.cells (bsA h) 219)).alloc (Obj.cells (bsA noB) 219)) = w0 at g0 s0 s1 s2 ⊢
 clear hz hsz
 go_loopw [6] (fun i wr => ∃ c : Nat, c ≤ 256 ∧ i = .int .i64 c ∧ Gr w wr ∧ SetAt wr w.heap.size (fun k => bif decide (k < c) then f k || h k else f k) ∧ SetAt wr (w.heap.size + 1) h ∧ SetAt wr (w.heap.size + 1 + 1) noB) (fun i _ => 256 - (intOf i).toNat)
 case atStart => exact ⟨0, by omega, rfl, g0, s0, s2, s1⟩
 case round =>
  clear g0 s0 s1 s2
  obtain ⟨c, hc, rfl, hgr, hs, hh, ht⟩ := hrel
  by_cases hlt : c < 256
  ·
   have h3 : (c : Int) < 256 := by omega
   have hcell := hs.cell hlt
   rw [show (bif decide (c < c) then f c || h c else f c) = f c by simp] at hcell
   have hcell2 := hh.cell hlt
   have hf := hs.free c
   have HS := hs.set c (f c || h c)
   have HT := ht.other (p := ⟨w.heap.size, c, none⟩) (by simp; omega) (.bool (f c || h c))
   have HH := hh.other (p := ⟨w.heap.size, c, none⟩) (by simp) (.bool (f c || h c))
   have HG := Gr.setCell hgr (p := ⟨w.heap.size, c, none⟩) (Nat.le_refl _) (.bool (f c || h c))
   have HSX : ∀ i, i < 256 → (bif i == c then f c || h c else bif decide (i < c) then f i || h i else f i) = (bif decide (i < c + 1) then f i || h i else f i) := by
    intro i _
    by_cases hi : i = c
    ·
     subst hi; simp
    ·
     have e1 : (i == c) = false := by simpa using hi
     have e2 : decide (i < c + 1) = decide (i < c) := by rw [decide_eq_decide]; omega
     simp only [e1, cond_false, e2]
   have HS := HS.eq HSX
   clear HSX
   have HS := Lib.hid HS
   have HT := Lib.hid HT
   have HH := Lib.hid HH
   have HG := Lib.hid HG
   cases hb : f c
   all_goals
    simp only [hb, Bool.true_or, Bool.false_or] at hcell HS HT HH HG
    clear hb
    go_wp2
    go_roundw
    case rel => exact ⟨c + 1, by omega, by go_num, HG.out, HS.out, HH.out, HT.out⟩
    case measure => simp [intOf]; omega
  ·
   have hc' : c = 256 := by omega
   subst hc'
   have hs' : SetAt wr w.heap.size (orB f h) := hs.eq fun i hi => by simp [orB, hi]
   clear hs
   go_wp2_with (first
    | (refine wpList_load_row rfl 219 (.tmp 2) rfl w.heap.size rfl _ (bsA (orB f h)) (0, 0) _ hs' und_set rfl (size_bsA _) ?_)
    | (refine wpList_store_row rfl 219 (.tmp 4) (.tmp 20) rfl (w.heap.size + 1 + 1) (bsA (orB f h)) rfl rfl _ _ ht (size_bsA _) (by simp only [bsA_size]) (bsA_one _) ?_))
   refine bodyPost_ret (v := .agg (bsA (orB f h))) (results_cell_row (p := 4) (by kernel_rfl) _ _ (w.heap.size + 1 + 1) _ _ (0, 0) _ rfl (SetAt.row ht) und_set rfl (size_bsA _)) rfl ⟨rfl, Gr.setRow hgr (by omega) _⟩

set_option maxRecDepth 100000 in
set_option maxHeartbeats 1600000 in
theorem one_any (c : Nat) (w : World) (hc : c < 256) :
  Calls Tryz.prog 153 #[.int .u8 c] w fun e w' => e = .returned (.agg (bsA (oneB c))) ∧ Gr w w' := by
 obtain ⟨hz, hsz⟩ := zero_of_info info_set
 have h3 : (c : Int) < 256 := by omega
 have g0 : Gr w ((w.alloc (Obj.cells (bsA noB) 219)).alloc (Obj.cells (bsA noB) 219)) := (by repeat (first | exact Gr.refl _ | refine Gr.alloc ?_ _ | refine Gr.drew ?_ | refine Gr.setCell ?_ (by first | (simp; done) | (simp; omega) | omega) _ | refine Gr.trans ?_ (by assumption)))
 have s0 : SetAt ((w.alloc (Obj.cells (bsA noB) 219)).alloc (Obj.cells (bsA noB) 219)) w.heap.size noB := (SetAt.new w noB).gr (Gr.alloc (Gr.refl _) _)
 have s1 : SetAt ((w.alloc (Obj.cells (bsA noB) 219)).alloc (Obj.cells (bsA noB) 219)) (w.heap.size + 1) noB := by
  have := SetAt.new (w.alloc (Obj.cells (bsA noB) 219)) noB
  simpa using this
 go_enter Tryz.func153, Tryz.ntmps153
 go_upto_region 2 with (fail)
 generalize ((w.alloc (Obj.cells (bsA noB) 219)).alloc (Obj.cells (bsA noB) 219)) = w0 at g0 s0 s1 ⊢
 clear hz hsz
 have hcell := s1.cell hc
 have hf := s1.free c
 have S1 := (s1.set c true).eq (h := oneB c) (fun i _ => by unfold oneB noB; cases i == c <;> rfl)
 have S0 := s0.other (p := ⟨w.heap.size + 1, c, none⟩) (by simp) (.bool true)
 have G0 := Gr.setCell g0 (p := ⟨w.heap.size + 1, c, none⟩) (by simp) (.bool true)
 go_wp2_with (first
    | (refine wpList_load_row rfl 219 (.tmp 3) rfl (w.heap.size + 1) rfl _ (bsA (oneB c)) (0, 0) _ S1 und_set rfl (size_bsA _) ?_)
    | (refine wpList_store_row rfl 219 (.tmp 2) (.tmp 6) rfl (w.heap.size) (bsA (oneB c)) rfl rfl _ _ S0 (size_bsA _) (by simp only [bsA_size]) (bsA_one _) ?_))
 refine bodyPost_ret (v := .agg (bsA (oneB c))) (results_cell_row (p := 2) (by kernel_rfl) _ _ (w.heap.size) _ _ (0, 0) _ rfl (SetAt.row S0) und_set rfl (size_bsA _)) rfl ⟨rfl, Gr.setRow G0 (Nat.le_refl _) _⟩

end Go.Proofs.YtjapddfnpmlifaaGreatDoor
