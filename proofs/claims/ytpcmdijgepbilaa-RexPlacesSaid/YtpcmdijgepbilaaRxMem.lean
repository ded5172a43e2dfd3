/- Memory of chapter 11: what leaves all but one block alone ('GX'), arrays of 256 bools ('bsA'), pieces of an expression as they lie in memory ('Pc.at'), slices of instructions. No program in sight. -/
import Derived.Test.YtpcmdijgepbilaaRxSpec
import Derived.Test.YtpcmdijgepbilaaGx
import Derived.Test.YtpcmdijgepbilaaFxRead
import Derived.Test.YtpcmdijgepbilaaAppend
import Derived.Lib.Hide
namespace Go.Proofs.Ytpcmdijgepbilaa
set_option linter.unusedVariables false
set_option linter.unusedSimpArgs false
open Go.RowKit

/-- 256 bools. -/
def bsA (f : Bs) : Array Value := ((List.range 256).map fun i => Value.bool (f i)).toArray
theorem bsA_size (f : Bs) : (bsA f).size = 256 := by simp [bsA]
theorem bsA_at (f : Bs) {i : Nat} (h : i < 256) : (bsA f)[i]? = some (.bool (f i)) := by simp [bsA, h]
theorem bsA_eq {f g : Bs} (h : ∀ i, i < 256 → f i = g i) : bsA f = bsA g := by
  unfold bsA
  congr 1
  apply List.map_congr_left
  intro i hi
  rw [h i (by simpa using hi)]
theorem bsA_set (f : Bs) (c : Nat) (b : Bool) : (bsA f).setIfInBounds c (.bool b) = bsA (fun i => bif i == c then b else f i) := by
  apply Array.ext
  · simp [bsA]
  · intro i h1 h2
    simp only [bsA_size, Array.size_setIfInBounds] at h1 h2
    rw [Array.getElem_setIfInBounds]
    · simp only [bsA, List.getElem_toArray, List.getElem_map, List.getElem_range]
      by_cases h : i = c
      · subst h; simp
      · have : (i == c) = false := by simpa using h
        simp [this, Ne.symm h]
    · rw [bsA_size]; exact h1

/-- cells of instructions. -/
def icells (l : List In) : List Value := l.flatMap fun v => [.int .i64 v.op, .int .i64 v.x, .int .i64 v.y, .string ⟨v.ps.toArray⟩]
theorem icells_cons (v : In) (l : List In) : icells (v :: l) = .int .i64 v.op :: .int .i64 v.x :: .int .i64 v.y :: .string ⟨v.ps.toArray⟩ :: icells l := rfl
theorem icells_append (l m : List In) : icells (l ++ m) = icells l ++ icells m := by simp [icells]
theorem icells_length (l : List In) : (icells l).length = l.length * 4 := by
  induction l with
  | nil => rfl
  | cons v l ih => rw [icells_cons]; simp only [List.length_cons, ih]; omega
theorem icells_one (l : List In) : ∀ u ∈ icells l, u.oneCell' = true := by
  intro u hu
  simp only [icells, List.mem_flatMap] at hu
  obtain ⟨v, _, hv⟩ := hu
  simp at hv
  rcases hv with rfl | rfl | rfl | rfl <;> rfl
theorem icells_at (l : List In) : ∀ (k : Nat) (h : k < l.length), (icells l)[k * 4]? = some (.int .i64 l[k].op) ∧ (icells l)[k * 4 + 1]? = some (.int .i64 l[k].x) ∧ (icells l)[k * 4 + 2]? = some (.int .i64 l[k].y) ∧ (icells l)[k * 4 + 3]? = some (.string ⟨l[k].ps.toArray⟩) := by
  induction l with
  | nil => intro k h; simp at h
  | cons v l ih =>
    intro k h
    rw [icells_cons]
    match k, h with
    | 0, _ => exact ⟨rfl, rfl, rfl, rfl⟩
    | k + 1, h =>
      have hk : k < l.length := by simp only [List.length_cons] at h; omega
      have e : (k + 1) * 4 = k * 4 + 1 + 1 + 1 + 1 := by omega
      rw [e]
      obtain ⟨h0, h1, h2, h3⟩ := ih k hk
      refine ⟨?_, ?_, ?_, ?_⟩
      · simpa only [List.getElem?_cons_succ, List.getElem_cons_succ] using h0
      · simpa only [List.getElem?_cons_succ, List.getElem_cons_succ, Nat.add_right_comm _ 1] using h1
      · rw [show k * 4 + 1 + 1 + 1 + 1 + 2 = k * 4 + 2 + 1 + 1 + 1 + 1 by omega]; simpa only [List.getElem?_cons_succ, List.getElem_cons_succ] using h2
      · rw [show k * 4 + 1 + 1 + 1 + 1 + 3 = k * 4 + 3 + 1 + 1 + 1 + 1 by omega]; simpa only [List.getElem?_cons_succ, List.getElem_cons_succ] using h3
/-- The slice with the address A reads as the list l of instructions. -/
def Ri (w : World) (A : Option Addr) (l : List In) : Prop := Rd w 4 A l.length (icells l)
theorem Ri.gr {w w' : World} {A : Option Addr} {l : List In} (h : Ri w A l) (g : Gr w w') : Ri w' A l := Rd.gr h g
theorem Ri.at {w : World} {A : Option Addr} {l : List In} (h : Ri w A l) {k : Nat} (hk : k < l.length) :
    ∃ ad : Addr, A = some ad ∧ ad.block < w.heap.size ∧ w.cell? (ad.add (k * 4)) = some (.int .i64 l[k].op) ∧ w.cell? ⟨(ad.add (k * 4)).block, (ad.add (k * 4)).off + 1, none⟩ = some (.int .i64 l[k].x)
      ∧ w.cell? ⟨(ad.add (k * 4)).block, (ad.add (k * 4)).off + 2, none⟩ = some (.int .i64 l[k].y) ∧ w.cell? ⟨(ad.add (k * 4)).block, (ad.add (k * 4)).off + 3, none⟩ = some (.string ⟨l[k].ps.toArray⟩) := by
  obtain ⟨ad, e, hb, hc⟩ := h.2 (by omega)
  obtain ⟨h0, h1, h2, h3⟩ := icells_at l k hk
  exact ⟨ad, e, hb, hc _ _ h0, (congrArg w.cell? (add_next ad (k * 4) 0)).symm.trans (hc _ _ h1), (congrArg w.cell? (add_next ad (k * 4) 1)).symm.trans (hc _ _ h2), (congrArg w.cell? (add_next ad (k * 4) 2)).symm.trans (hc _ _ h3)⟩

/-- a piece's own five cells. -/
def Node (w : World) (b : Nat) (op : Nat) (ps : List UInt8) (kids : Value) (g : Nat) (z : Bool) : Prop :=
  w.cell? ⟨b, 0, none⟩ = some (.int .i64 op) ∧ w.cell? ⟨b, 1, none⟩ = some (.string ⟨ps.toArray⟩) ∧ w.cell? ⟨b, 2, none⟩ = some kids ∧ w.cell? ⟨b, 3, none⟩ = some (.int .i64 g) ∧ w.cell? ⟨b, 4, none⟩ = some (.bool z)
def ptrs (l : List Nat) : List Value := l.map fun b => .pointer (some ⟨b, 0, none⟩)
theorem ptrs_append (l m : List Nat) : ptrs (l ++ m) = ptrs l ++ ptrs m := by simp [ptrs]
/-- a slice of pointers to pieces, above block lo. -/
def Rk (lo : Nat) (w : World) (kids : Value) (bs : List Nat) : Prop :=
  ∃ A c, kids = .slice A bs.length c ∧ Rd w 1 A bs.length (ptrs bs) ∧ (0 < bs.length → ∀ ad, A = some ad → lo < ad.block)
mutual
/-- a piece lies at block b, all of it above block lo. -/
def Pc.at_ (lo : Nat) (w : World) : Pc → Nat → Prop
  | .leaf op ps, b => lo < b ∧ b < w.heap.size ∧ Node w b op ps (.slice none 0 0) 0 false
  | .row l, b => lo < b ∧ b < w.heap.size ∧ ∃ kids bs, Node w b 10 [] kids 0 false ∧ Rk lo w kids bs ∧ l.at_ lo w bs
  | .ways l, b => lo < b ∧ b < w.heap.size ∧ ∃ kids bs, Node w b 11 [] kids 0 false ∧ Rk lo w kids bs ∧ l.at_ lo w bs
  | .group g k, b => lo < b ∧ b < w.heap.size ∧ ∃ kids bk, Node w b 12 [] kids g false ∧ Rk lo w kids [bk] ∧ k.at_ lo w bk
  | .rep op z k, b => lo < b ∧ b < w.heap.size ∧ ∃ kids bk, Node w b op [] kids 0 z ∧ Rk lo w kids [bk] ∧ k.at_ lo w bk
def PcL.at_ (lo : Nat) (w : World) : PcL → List Nat → Prop
  | .nil, bs => bs = []
  | .cons p l, bs => ∃ b r, bs = b :: r ∧ p.at_ lo w b ∧ l.at_ lo w r
end
theorem Node.gx {R b op : Nat} {w w' : World} {ps : List UInt8} {kids : Value} {g : Nat} {z : Bool} (h : Node w b op ps kids g z) (x : GX R w w') (hb : b < w.heap.size) (hn : b ≠ R) : Node w' b op ps kids g z := by
  obtain ⟨h0, h1, h2, h3, h4⟩ := h
  exact ⟨(x.cell (p := ⟨b, 0, none⟩) hb hn).trans h0, (x.cell (p := ⟨b, 1, none⟩) hb hn).trans h1, (x.cell (p := ⟨b, 2, none⟩) hb hn).trans h2, (x.cell (p := ⟨b, 3, none⟩) hb hn).trans h3, (x.cell (p := ⟨b, 4, none⟩) hb hn).trans h4⟩
theorem Rd.gx {R size n : Nat} {w w' : World} {A : Option Addr} {xs : List Value} (h : Rd w size A n xs) (x : GX R w w') (hn : 0 < n → ∀ ad, A = some ad → ad.block ≠ R) : Rd w' size A n xs :=
  ⟨h.1, fun h0 => by
    obtain ⟨ad, e, hb, hc⟩ := h.2 h0
    exact ⟨ad, e, Nat.lt_of_lt_of_le hb x.size, fun j u hu => (x.cell (by rw [add_blk]; exact hb) (by rw [add_blk]; exact hn h0 ad e)).trans (hc j u hu)⟩⟩
theorem Rk.gx {R lo : Nat} {w w' : World} {kids : Value} {bs : List Nat} (h : Rk lo w kids bs) (x : GX R w w') (hR : R ≤ lo) : Rk lo w' kids bs := by
  obtain ⟨A, c, e, hr, hb⟩ := h
  exact ⟨A, c, e, hr.gx x (fun h0 ad ha => by have := hb h0 ad ha; omega), hb⟩
mutual
theorem Pc.gx {R lo : Nat} {w w' : World} (x : GX R w w') (hR : R ≤ lo) : ∀ (p : Pc) (b : Nat), p.at_ lo w b → p.at_ lo w' b
  | .leaf op ps, b, h => by
    simp only [Pc.at_] at h ⊢
    obtain ⟨h1, h2, h3⟩ := h
    exact ⟨h1, Nat.lt_of_lt_of_le h2 x.size, h3.gx x h2 (by omega)⟩
  | .row l, b, h => by
    simp only [Pc.at_] at h ⊢
    obtain ⟨h1, h2, kids, bs, h3, h4, h5⟩ := h
    exact ⟨h1, Nat.lt_of_lt_of_le h2 x.size, kids, bs, h3.gx x h2 (by omega), h4.gx x hR, PcL.gx x hR l bs h5⟩
  | .ways l, b, h => by
    simp only [Pc.at_] at h ⊢
    obtain ⟨h1, h2, kids, bs, h3, h4, h5⟩ := h
    exact ⟨h1, Nat.lt_of_lt_of_le h2 x.size, kids, bs, h3.gx x h2 (by omega), h4.gx x hR, PcL.gx x hR l bs h5⟩
  | .group g k, b, h => by
    simp only [Pc.at_] at h ⊢
    obtain ⟨h1, h2, kids, bk, h3, h4, h5⟩ := h
    exact ⟨h1, Nat.lt_of_lt_of_le h2 x.size, kids, bk, h3.gx x h2 (by omega), h4.gx x hR, Pc.gx x hR k bk h5⟩
  | .rep op z k, b, h => by
    simp only [Pc.at_] at h ⊢
    obtain ⟨h1, h2, kids, bk, h3, h4, h5⟩ := h
    exact ⟨h1, Nat.lt_of_lt_of_le h2 x.size, kids, bk, h3.gx x h2 (by omega), h4.gx x hR, Pc.gx x hR k bk h5⟩
theorem PcL.gx {R lo : Nat} {w w' : World} (x : GX R w w') (hR : R ≤ lo) : ∀ (l : PcL) (bs : List Nat), l.at_ lo w bs → l.at_ lo w' bs
  | .nil, bs, h => by simpa only [PcL.at_] using h
  | .cons p l, bs, h => by
    simp only [PcL.at_] at h ⊢
    obtain ⟨b, r, e, h1, h2⟩ := h
    exact ⟨b, r, e, Pc.gx x hR p b h1, PcL.gx x hR l r h2⟩
end
theorem Pc.gr {lo : Nat} {w w' : World} (x : Gr w w') {p : Pc} {b : Nat} (h : p.at_ lo w b) : p.at_ lo w' b := Pc.gx (R := 0) (GX.of_gr x) (Nat.zero_le _) p b h
theorem PcL.gr {lo : Nat} {w w' : World} (x : Gr w w') {l : PcL} {bs : List Nat} (h : l.at_ lo w bs) : l.at_ lo w' bs := PcL.gx (R := 0) (GX.of_gr x) (Nat.zero_le _) l bs h

/-- The reader of an expression, in block R. -/
structure Rdr (w : World) (R : Nat) (s : ByteArray) (n : Nat) (q : Rs) : Prop where
  len : n + q.rest.length = s.size
  rest : s.data.toList.drop n = q.rest
  c0 : w.cell? ⟨R, 0, none⟩ = some (.string s)
  c1 : w.cell? ⟨R, 1, none⟩ = some (.int .i64 n)
  c2 : w.cell? ⟨R, 2, none⟩ = some (.int .i64 q.groups)
  c3 : w.cell? ⟨R, 3, none⟩ = some (.int .i64 q.deep)
  c4 : w.cell? ⟨R, 4, none⟩ = some (.bool q.bad)
  c5 : w.cell? ⟨R, 5, none⟩ = some (.bool q.over)
  f1 : w.frozen? ⟨R, 1, none⟩ = false
  f2 : w.frozen? ⟨R, 2, none⟩ = false
  f3 : w.frozen? ⟨R, 3, none⟩ = false
  f4 : w.frozen? ⟨R, 4, none⟩ = false
  f5 : w.frozen? ⟨R, 5, none⟩ = false
  lt : R < w.heap.size
theorem Rdr.gr {w w' : World} {R n : Nat} {s : ByteArray} {q : Rs} (h : Rdr w R s n q) (g : Gr w w') : Rdr w' R s n q :=
  ⟨h.len, h.rest, (g.cell (p := ⟨R, 0, none⟩) h.lt).trans h.c0, (g.cell (p := ⟨R, 1, none⟩) h.lt).trans h.c1, (g.cell (p := ⟨R, 2, none⟩) h.lt).trans h.c2, (g.cell (p := ⟨R, 3, none⟩) h.lt).trans h.c3, (g.cell (p := ⟨R, 4, none⟩) h.lt).trans h.c4, (g.cell (p := ⟨R, 5, none⟩) h.lt).trans h.c5,
    (g.frozen (p := ⟨R, 1, none⟩) h.lt).trans h.f1, (g.frozen (p := ⟨R, 2, none⟩) h.lt).trans h.f2, (g.frozen (p := ⟨R, 3, none⟩) h.lt).trans h.f3, (g.frozen (p := ⟨R, 4, none⟩) h.lt).trans h.f4, (g.frozen (p := ⟨R, 5, none⟩) h.lt).trans h.f5, Nat.lt_of_lt_of_le h.lt g.size⟩
end Go.Proofs.Ytpcmdijgepbilaa
