/- Where a tree of pieces lies: between two blocks; kept by all that leaves the blocks between alone. No program in sight. · The reader's cells when they are set; the contract of rex.reader.fail. · How reading an expression goes on: what is left never grows; how many groups and how deep, no more than what was read. No program in sight. -/
import Derived.Test.YtjapddfnpmlifaaGreatDoorRunRxMem
import Derived.Test.YtjapddfnpmlifaaGreatDoorRxCls
import Derived.Test.YtjapddfnpmlifaaGreatDoorRunRuRetR
namespace Go.Proofs.YtjapddfnpmlifaaGreatDoor
set_option linter.unusedVariables false
set_option linter.unusedSimpArgs false
open Go.RowKit

/-- a slice of pointers to pieces, its array between blocks lo and hi. -/
def Rkn (lo hi : Nat) (w : World) (kids : Value) (bs : List Nat) : Prop :=
 ∃ A c, kids = .slice A bs.length c ∧ Rd w 1 A bs.length (ptrs bs) ∧ (0 < bs.length → ∀ ad, A = some ad → lo < ad.block ∧ ad.block < hi)
mutual
/-- a piece lies at block b, all of it between blocks lo and hi. -/
def Pc.In (lo hi : Nat) (w : World) : Pc → Nat → Prop
 | .leaf op ps, b => lo < b ∧ b < hi ∧ Node w b op ps (.slice none 0 0) 0 false
 | .row l, b => lo < b ∧ b < hi ∧ ∃ kids bs, Node w b 10 [] kids 0 false ∧ Rkn lo hi w kids bs ∧ l.In lo hi w bs
 | .ways l, b => lo < b ∧ b < hi ∧ ∃ kids bs, Node w b 11 [] kids 0 false ∧ Rkn lo hi w kids bs ∧ l.In lo hi w bs
 | .group g k, b => lo < b ∧ b < hi ∧ ∃ kids bk, Node w b 12 [] kids g false ∧ Rkn lo hi w kids [bk] ∧ k.In lo hi w bk
 | .rep op z k, b => lo < b ∧ b < hi ∧ ∃ kids bk, Node w b op [] kids 0 z ∧ Rkn lo hi w kids [bk] ∧ k.In lo hi w bk
def PcL.In (lo hi : Nat) (w : World) : PcL → List Nat → Prop
 | .nil, bs => bs = []
 | .cons p l, bs => ∃ b r, bs = b :: r ∧ p.In lo hi w b ∧ l.In lo hi w r
end
/-- the blocks between are as they were. -/
def Same (lo hi : Nat) (w w' : World) : Prop := hi ≤ w'.heap.size ∧ ∀ k, lo < k → k < hi → w'.heap[k]? = w.heap[k]?
section
variable {lo hi : Nat} {w w' : World}
theorem Same.node (h : Same lo hi w w') {b op g : Nat} {ps : List UInt8} {kids : Value} {z : Bool} (h0 : lo < b) (h1 : b < hi) (n : Node w b op ps kids g z) : Node w' b op ps kids g z := by
 have e := h.2 b h0 h1
 obtain ⟨n0, n1, n2, n3, n4⟩ := n
 exact ⟨(World.cell?_of_block (a := ⟨b, 0, none⟩) e).trans n0, (World.cell?_of_block (a := ⟨b, 1, none⟩) e).trans n1, (World.cell?_of_block (a := ⟨b, 2, none⟩) e).trans n2, (World.cell?_of_block (a := ⟨b, 3, none⟩) e).trans n3, (World.cell?_of_block (a := ⟨b, 4, none⟩) e).trans n4⟩
theorem Rkn.same (h : Same lo hi w w') {kids : Value} {bs : List Nat} (r : Rkn lo hi w kids bs) : Rkn lo hi w' kids bs := by
 obtain ⟨A, c, e, hr, hb⟩ := r
 refine ⟨A, c, e, ⟨hr.1, fun h0 => ?_⟩, hb⟩
 obtain ⟨ad, e, _, hc⟩ := hr.2 h0
 obtain ⟨b0, b1⟩ := hb h0 ad e
 refine ⟨ad, e, Nat.lt_of_lt_of_le b1 h.1, fun j u hu => ?_⟩
 have e2 : w'.heap[(ad.add j).block]? = w.heap[(ad.add j).block]? := by rw [add_blk]; exact h.2 _ b0 b1
 exact (World.cell?_of_block (a := ad.add j) e2).trans (hc j u hu)
mutual
theorem Pc.In.same (h : Same lo hi w w') : ∀ (p : Pc) (b : Nat), p.In lo hi w b → p.In lo hi w' b
 | .leaf op ps, b, k => by
  simp only [Pc.In] at k ⊢
  exact ⟨k.1, k.2.1, h.node k.1 k.2.1 k.2.2⟩
 | .row l, b, k => by
  simp only [Pc.In] at k ⊢
  obtain ⟨k0, k1, kids, bs, k2, k3, k4⟩ := k
  exact ⟨k0, k1, kids, bs, h.node k0 k1 k2, k3.same h, PcL.In.same h l bs k4⟩
 | .ways l, b, k => by
  simp only [Pc.In] at k ⊢
  obtain ⟨k0, k1, kids, bs, k2, k3, k4⟩ := k
  exact ⟨k0, k1, kids, bs, h.node k0 k1 k2, k3.same h, PcL.In.same h l bs k4⟩
 | .group g p, b, k => by
  simp only [Pc.In] at k ⊢
  obtain ⟨k0, k1, kids, bk, k2, k3, k4⟩ := k
  exact ⟨k0, k1, kids, bk, h.node k0 k1 k2, k3.same h, Pc.In.same h p bk k4⟩
 | .rep op z p, b, k => by
  simp only [Pc.In] at k ⊢
  obtain ⟨k0, k1, kids, bk, k2, k3, k4⟩ := k
  exact ⟨k0, k1, kids, bk, h.node k0 k1 k2, k3.same h, Pc.In.same h p bk k4⟩
theorem PcL.In.same (h : Same lo hi w w') : ∀ (l : PcL) (bs : List Nat), l.In lo hi w bs → l.In lo hi w' bs
 | .nil, bs, k => by simpa only [PcL.In] using k
 | .cons p l, bs, k => by
  simp only [PcL.In] at k ⊢
  obtain ⟨b, r, e, k1, k2⟩ := k
  exact ⟨b, r, e, Pc.In.same h p b k1, PcL.In.same h l r k2⟩
end
theorem Rkn.wide {lo' hi' : Nat} (h0 : lo' ≤ lo) (h1 : hi ≤ hi') {kids : Value} {bs : List Nat} (r : Rkn lo hi w kids bs) : Rkn lo' hi' w kids bs := by
 obtain ⟨A, c, e, hr, hb⟩ := r
 exact ⟨A, c, e, hr, fun h ad ha => by have := hb h ad ha; omega⟩
mutual
theorem Pc.In.wide {lo' hi' : Nat} (h0 : lo' ≤ lo) (h1 : hi ≤ hi') : ∀ (p : Pc) (b : Nat), p.In lo hi w b → p.In lo' hi' w b
 | .leaf op ps, b, k => by
  simp only [Pc.In] at k ⊢
  exact ⟨by omega, by omega, k.2.2⟩
 | .row l, b, k => by
  simp only [Pc.In] at k ⊢
  obtain ⟨k0, k1, kids, bs, k2, k3, k4⟩ := k
  exact ⟨by omega, by omega, kids, bs, k2, k3.wide h0 h1, PcL.In.wide h0 h1 l bs k4⟩
 | .ways l, b, k => by
  simp only [Pc.In] at k ⊢
  obtain ⟨k0, k1, kids, bs, k2, k3, k4⟩ := k
  exact ⟨by omega, by omega, kids, bs, k2, k3.wide h0 h1, PcL.In.wide h0 h1 l bs k4⟩
 | .group g p, b, k => by
  simp only [Pc.In] at k ⊢
  obtain ⟨k0, k1, kids, bk, k2, k3, k4⟩ := k
  exact ⟨by omega, by omega, kids, bk, k2, k3.wide h0 h1, Pc.In.wide h0 h1 p bk k4⟩
 | .rep op z p, b, k => by
  simp only [Pc.In] at k ⊢
  obtain ⟨k0, k1, kids, bk, k2, k3, k4⟩ := k
  exact ⟨by omega, by omega, kids, bk, k2, k3.wide h0 h1, Pc.In.wide h0 h1 p bk k4⟩
theorem PcL.In.wide {lo' hi' : Nat} (h0 : lo' ≤ lo) (h1 : hi ≤ hi') : ∀ (l : PcL) (bs : List Nat), l.In lo hi w bs → l.In lo' hi' w bs
 | .nil, bs, k => by simpa only [PcL.In] using k
 | .cons p l, bs, k => by
  simp only [PcL.In] at k ⊢
  obtain ⟨b, r, e, k1, k2⟩ := k
  exact ⟨b, r, e, Pc.In.wide h0 h1 p b k1, PcL.In.wide h0 h1 l r k2⟩
end
theorem Same.gr (h : Gr w w') (hh : hi ≤ w.heap.size) : Same lo hi w w' := ⟨Nat.le_trans hh h.size, fun k _ hk => Below.block h k (by omega)⟩
theorem Same.gx {R : Nat} (h : GX R w w') (hh : hi ≤ w.heap.size) (hR : R ≤ lo) : Same lo hi w w' := ⟨Nat.le_trans hh h.size, fun k h0 hk => h.block k (by omega) (by omega)⟩
theorem Same.grown {row : Option Nat} (h : w.grownBy w' row) (hh : hi ≤ w.heap.size) (hr : ∀ g, row = some g → g ≤ lo ∨ hi ≤ g) : Same lo hi w w' := by
 refine ⟨Nat.le_trans hh h.size, fun k h0 hk => h.block k (by omega) fun e => ?_⟩
 have := hr k e.symm
 omega
theorem Same.set {p : Addr} (hh : hi ≤ w.heap.size) (hp : p.block ≤ lo ∨ hi ≤ p.block) (u : Value) : Same lo hi w (w.setCell p u) :=
 ⟨by simpa using hh, fun k h0 hk => heap_setCell_other w p k u (by omega)⟩
theorem Pc.In.lt {p : Pc} {b : Nat} (h : p.In lo hi w b) : lo < b ∧ b < hi := by
 cases p <;> (simp only [Pc.In] at h; exact ⟨h.1, h.2.1⟩)
end
/-- pieces, one behind the other. -/
def PcL.app : PcL → PcL → PcL
 | .nil, m => m
 | .cons p l, m => .cons p (l.app m)
/-- pieces that lie each where no block g is. -/
def Kids (base g : Option Nat) (w : World) (l : List Pc) (bs : List Nat) : Prop := l.length = bs.length ∧ ∀ i (h : i < l.length) (h' : i < bs.length), ∃ lo hi, l[i].In lo hi w bs[i] ∧ (∀ k, base = some k → k ≤ lo) ∧ hi ≤ w.heap.size ∧ (∀ k, g = some k → k ≤ lo ∨ hi ≤ k)
theorem Kids.nil (base g : Option Nat) (w : World) : Kids base g w [] [] := ⟨rfl, fun i h => absurd h (by simp)⟩
theorem Kids.gr {base g : Option Nat} {w w' : World} {l : List Pc} {bs : List Nat} (h : Kids base g w l bs) (x : Gr w w') : Kids base g w' l bs :=
 ⟨h.1, fun i hi hi' => by
  obtain ⟨lo, hi, k, kb, kh, kg⟩ := h.2 i hi hi'
  exact ⟨lo, hi, Pc.In.same (Same.gr x kh) _ _ k, kb, Nat.le_trans kh x.size, kg⟩⟩
theorem Kids.gx {R B : Nat} {g : Option Nat} {w w' : World} {l : List Pc} {bs : List Nat} (h : Kids (some B) g w l bs) (x : GX R w w') (hR : R ≤ B) : Kids (some B) g w' l bs :=
 ⟨h.1, fun i hi hi' => by
  obtain ⟨lo, hi, k, kb, kh, kg⟩ := h.2 i hi hi'
  exact ⟨lo, hi, Pc.In.same (Same.gx x kh (Nat.le_trans hR (kb B rfl))) _ _ k, kb, Nat.le_trans kh x.size, kg⟩⟩
/-- one more, behind an append. -/
theorem Kids.push {B : Nat} {g g' : Option Nat} {w w' : World} {l : List Pc} {bs : List Nat} (h : Kids (some B) g w l bs) (x : w.grownBy w' g) (hg : g' = g ∨ g' = some w.heap.size) {p : Pc} {b lo hi : Nat} (k : p.In lo hi w b) (kb : B ≤ lo) (kh : hi ≤ w.heap.size) (kg : ∀ j, g = some j → j ≤ lo) : Kids (some B) g' w' (l ++ [p]) (bs ++ [b]) := by
 have hnew : ∀ j, g' = some j → (g = some j ∨ j = w.heap.size) := fun j hj => by
  rcases hg with e | e
  ·
   exact .inl (e ▸ hj)
  ·
   rw [e] at hj; injection hj with hj; exact .inr hj.symm
 refine ⟨by simp [h.1], fun i hi' hi2 => ?_⟩
 by_cases hl : i < l.length
 ·
  have hb : i < bs.length := by rw [← h.1]; exact hl
  obtain ⟨lo', hi'', k', kb', kh', kg'⟩ := h.2 i hl hb
  rw [List.getElem_append_left hl, List.getElem_append_left hb]
  refine ⟨lo', hi'', Pc.In.same (Same.grown x kh' kg') _ _ k', kb', Nat.le_trans kh' x.size, fun j hj => ?_⟩
  rcases hnew j hj with e | e
  ·
   exact kg' j e
  ·
   exact .inr (by omega)
 ·
  have hil : i = l.length := by simp at hi'; omega
  subst hil
  have e1 : (l ++ [p])[l.length] = p := by simp
  have e2 : (bs ++ [b])[l.length]'hi2 = b := by simp [h.1]
  rw [e1, e2]
  refine ⟨lo, hi, Pc.In.same (Same.grown x kh (fun j hj => .inl (kg j hj))) _ _ k, fun j hj => by injection hj with hj; omega, Nat.le_trans kh x.size, fun j hj => ?_⟩
  rcases hnew j hj with e | e
  ·
   exact .inl (kg j e)
  ·
   exact .inr (by omega)
theorem Kids.list {B : Nat} {g : Option Nat} {w : World} : ∀ {l : List Pc} {bs : List Nat}, Kids (some B) g w l bs → (PcL.ofList l).In B w.heap.size w bs
 | [], bs, h => by
  have : bs = [] := List.eq_nil_of_length_eq_zero h.1.symm
  subst this
  simp only [PcL.ofList, PcL.In]
 | p :: l, [], h => by have := h.1; simp at this
 | p :: l, b :: r, h => by
  simp only [PcL.ofList, PcL.In]
  obtain ⟨lo, hi, k, kb, kh, _⟩ := h.2 0 (by simp) (by simp)
  refine ⟨b, r, rfl, Pc.In.wide (kb B rfl) kh _ _ k, Kids.list (g := g) ⟨by simpa using h.1, fun i hi hi' => ?_⟩⟩
  have := h.2 (i + 1) (by simpa using hi) (by simpa using hi')
  simpa using this
end Go.Proofs.YtjapddfnpmlifaaGreatDoor
namespace Go.Proofs.YtjapddfnpmlifaaGreatDoor
set_option linter.unusedVariables false
set_option linter.unusedSimpArgs false
open Go.RowKit

theorem Rdr.setGroups {w : World} {R n : Nat} {s : ByteArray} {q : Rs} (h : Rdr w R s n q) (g : Nat) : Rdr (w.setCell ⟨R, 2, none⟩ (.int .i64 g)) R s n { q with groups := g } := by
 refine ⟨h.len, h.rest, ?_, ?_, ?_, ?_, ?_, ?_, ?_, ?_, ?_, ?_, ?_, ?_⟩
 ·
  exact (World.cell?_setCell_other w ⟨R, 2, none⟩ ⟨R, 0, none⟩ _ (by simp)).trans h.c0
 ·
  exact (World.cell?_setCell_other w ⟨R, 2, none⟩ ⟨R, 1, none⟩ _ (by simp)).trans h.c1
 ·
  have := h.c2; have := h.f2; go_simp
 ·
  exact (World.cell?_setCell_other w ⟨R, 2, none⟩ ⟨R, 3, none⟩ _ (by simp)).trans h.c3
 ·
  exact (World.cell?_setCell_other w ⟨R, 2, none⟩ ⟨R, 4, none⟩ _ (by simp)).trans h.c4
 ·
  exact (World.cell?_setCell_other w ⟨R, 2, none⟩ ⟨R, 5, none⟩ _ (by simp)).trans h.c5
 ·
  exact (by simp : (w.setCell ⟨R, 2, none⟩ _).frozen? ⟨R, 1, none⟩ = w.frozen? ⟨R, 1, none⟩).trans h.f1
 ·
  exact (by simp : (w.setCell ⟨R, 2, none⟩ _).frozen? ⟨R, 2, none⟩ = w.frozen? ⟨R, 2, none⟩).trans h.f2
 ·
  exact (by simp : (w.setCell ⟨R, 2, none⟩ _).frozen? ⟨R, 3, none⟩ = w.frozen? ⟨R, 3, none⟩).trans h.f3
 ·
  exact (by simp : (w.setCell ⟨R, 2, none⟩ _).frozen? ⟨R, 4, none⟩ = w.frozen? ⟨R, 4, none⟩).trans h.f4
 ·
  exact (by simp : (w.setCell ⟨R, 2, none⟩ _).frozen? ⟨R, 5, none⟩ = w.frozen? ⟨R, 5, none⟩).trans h.f5
 ·
  simpa using h.lt
theorem Rdr.setDeep {w : World} {R n : Nat} {s : ByteArray} {q : Rs} (h : Rdr w R s n q) (g : Nat) : Rdr (w.setCell ⟨R, 3, none⟩ (.int .i64 g)) R s n { q with deep := g } := by
 refine ⟨h.len, h.rest, ?_, ?_, ?_, ?_, ?_, ?_, ?_, ?_, ?_, ?_, ?_, ?_⟩
 ·
  exact (World.cell?_setCell_other w ⟨R, 3, none⟩ ⟨R, 0, none⟩ _ (by simp)).trans h.c0
 ·
  exact (World.cell?_setCell_other w ⟨R, 3, none⟩ ⟨R, 1, none⟩ _ (by simp)).trans h.c1
 ·
  exact (World.cell?_setCell_other w ⟨R, 3, none⟩ ⟨R, 2, none⟩ _ (by simp)).trans h.c2
 ·
  have := h.c3; have := h.f3; go_simp
 ·
  exact (World.cell?_setCell_other w ⟨R, 3, none⟩ ⟨R, 4, none⟩ _ (by simp)).trans h.c4
 ·
  exact (World.cell?_setCell_other w ⟨R, 3, none⟩ ⟨R, 5, none⟩ _ (by simp)).trans h.c5
 ·
  exact (by simp : (w.setCell ⟨R, 3, none⟩ _).frozen? ⟨R, 1, none⟩ = w.frozen? ⟨R, 1, none⟩).trans h.f1
 ·
  exact (by simp : (w.setCell ⟨R, 3, none⟩ _).frozen? ⟨R, 2, none⟩ = w.frozen? ⟨R, 2, none⟩).trans h.f2
 ·
  exact (by simp : (w.setCell ⟨R, 3, none⟩ _).frozen? ⟨R, 3, none⟩ = w.frozen? ⟨R, 3, none⟩).trans h.f3
 ·
  exact (by simp : (w.setCell ⟨R, 3, none⟩ _).frozen? ⟨R, 4, none⟩ = w.frozen? ⟨R, 4, none⟩).trans h.f4
 ·
  exact (by simp : (w.setCell ⟨R, 3, none⟩ _).frozen? ⟨R, 5, none⟩ = w.frozen? ⟨R, 5, none⟩).trans h.f5
 ·
  simpa using h.lt
theorem Rdr.setBad {w : World} {R n : Nat} {s : ByteArray} {q : Rs} (h : Rdr w R s n q) : Rdr (w.setCell ⟨R, 4, none⟩ (.bool true)) R s n { q with bad := true } := by
 refine ⟨h.len, h.rest, ?_, ?_, ?_, ?_, ?_, ?_, ?_, ?_, ?_, ?_, ?_, ?_⟩
 ·
  exact (World.cell?_setCell_other w ⟨R, 4, none⟩ ⟨R, 0, none⟩ _ (by simp)).trans h.c0
 ·
  exact (World.cell?_setCell_other w ⟨R, 4, none⟩ ⟨R, 1, none⟩ _ (by simp)).trans h.c1
 ·
  exact (World.cell?_setCell_other w ⟨R, 4, none⟩ ⟨R, 2, none⟩ _ (by simp)).trans h.c2
 ·
  exact (World.cell?_setCell_other w ⟨R, 4, none⟩ ⟨R, 3, none⟩ _ (by simp)).trans h.c3
 ·
  have := h.c4; have := h.f4; go_simp
 ·
  exact (World.cell?_setCell_other w ⟨R, 4, none⟩ ⟨R, 5, none⟩ _ (by simp)).trans h.c5
 ·
  exact (by simp : (w.setCell ⟨R, 4, none⟩ _).frozen? ⟨R, 1, none⟩ = w.frozen? ⟨R, 1, none⟩).trans h.f1
 ·
  exact (by simp : (w.setCell ⟨R, 4, none⟩ _).frozen? ⟨R, 2, none⟩ = w.frozen? ⟨R, 2, none⟩).trans h.f2
 ·
  exact (by simp : (w.setCell ⟨R, 4, none⟩ _).frozen? ⟨R, 3, none⟩ = w.frozen? ⟨R, 3, none⟩).trans h.f3
 ·
  exact (by simp : (w.setCell ⟨R, 4, none⟩ _).frozen? ⟨R, 4, none⟩ = w.frozen? ⟨R, 4, none⟩).trans h.f4
 ·
  exact (by simp : (w.setCell ⟨R, 4, none⟩ _).frozen? ⟨R, 5, none⟩ = w.frozen? ⟨R, 5, none⟩).trans h.f5
 ·
  simpa using h.lt
theorem Rdr.setOver {w : World} {R n : Nat} {s : ByteArray} {q : Rs} (h : Rdr w R s n q) : Rdr (w.setCell ⟨R, 5, none⟩ (.bool true)) R s n { q with over := true } := by
 refine ⟨h.len, h.rest, ?_, ?_, ?_, ?_, ?_, ?_, ?_, ?_, ?_, ?_, ?_, ?_⟩
 ·
  exact (World.cell?_setCell_other w ⟨R, 5, none⟩ ⟨R, 0, none⟩ _ (by simp)).trans h.c0
 ·
  exact (World.cell?_setCell_other w ⟨R, 5, none⟩ ⟨R, 1, none⟩ _ (by simp)).trans h.c1
 ·
  exact (World.cell?_setCell_other w ⟨R, 5, none⟩ ⟨R, 2, none⟩ _ (by simp)).trans h.c2
 ·
  exact (World.cell?_setCell_other w ⟨R, 5, none⟩ ⟨R, 3, none⟩ _ (by simp)).trans h.c3
 ·
  exact (World.cell?_setCell_other w ⟨R, 5, none⟩ ⟨R, 4, none⟩ _ (by simp)).trans h.c4
 ·
  have := h.c5; have := h.f5; go_simp
 ·
  exact (by simp : (w.setCell ⟨R, 5, none⟩ _).frozen? ⟨R, 1, none⟩ = w.frozen? ⟨R, 1, none⟩).trans h.f1
 ·
  exact (by simp : (w.setCell ⟨R, 5, none⟩ _).frozen? ⟨R, 2, none⟩ = w.frozen? ⟨R, 2, none⟩).trans h.f2
 ·
  exact (by simp : (w.setCell ⟨R, 5, none⟩ _).frozen? ⟨R, 3, none⟩ = w.frozen? ⟨R, 3, none⟩).trans h.f3
 ·
  exact (by simp : (w.setCell ⟨R, 5, none⟩ _).frozen? ⟨R, 4, none⟩ = w.frozen? ⟨R, 4, none⟩).trans h.f4
 ·
  exact (by simp : (w.setCell ⟨R, 5, none⟩ _).frozen? ⟨R, 5, none⟩ = w.frozen? ⟨R, 5, none⟩).trans h.f5
 ·
  simpa using h.lt

/-- a piece is handed back: all of it new. -/
def RetP (R : Nat) (s : ByteArray) (w : World) (p : Pc) (q : Rs) (e : Ending) (w' : World) : Prop :=
 ∃ (b n : Nat), e = .returned (.pointer (some ⟨b, 0, none⟩)) ∧ p.In (w.heap.size - 1) w'.heap.size w' b ∧ GX R w w' ∧ Rdr w' R s n q
theorem node_new (w : World) (op g : Nat) (ps : List UInt8) (kids : Value) (z : Bool) : Node (w.alloc (.cells #[.int .i64 op, .string ⟨ps.toArray⟩, kids, .int .i64 g, .bool z] 179)) w.heap.size op ps kids g z := by
 refine ⟨?_, ?_, ?_, ?_, ?_⟩
 all_goals go_simp
theorem rkn_nil (lo hi : Nat) (w : World) : Rkn lo hi w (.slice none 0 0) [] := ⟨none, 0, rfl, Rd.nil _ _ _, fun h => absurd h (by simp)⟩
/-- a new piece without kids, in a world that has grown. -/
theorem RetP.leaf {R n : Nat} {s : ByteArray} {w w1 : World} {q : Rs} (x : GX R w w1) (h : Rdr w1 R s n q) (op : Nat) (ps : List UInt8) :
  RetP R s w (.leaf op ps) q (.returned (.pointer (some ⟨w1.heap.size, 0, none⟩))) (w1.alloc (.cells #[.int .i64 op, .string ⟨ps.toArray⟩, .slice none 0 0, .int .i64 0, .bool false] 179)) := by
 refine ⟨_, n, rfl, ?_, x.alloc _, h.gr (Gr.alloc (Gr.refl _) _)⟩
 simp only [Pc.In]
 have := x.size
 have := h.lt
 exact ⟨by omega, by simp, node_new w1 op 0 ps _ false⟩
theorem RetP.row0 {R n : Nat} {s : ByteArray} {w w1 : World} {q : Rs} (x : GX R w w1) (hR : R < w.heap.size) (h : Rdr w1 R s n q) :
  RetP R s w (.row .nil) q (.returned (.pointer (some ⟨w1.heap.size, 0, none⟩))) (w1.alloc (.cells #[.int .i64 10, .string ⟨#[]⟩, .slice none 0 0, .int .i64 0, .bool false] 179)) := by
 refine ⟨_, n, rfl, ?_, x.alloc _, h.gr (Gr.alloc (Gr.refl _) _)⟩
 simp only [Pc.In]
 have := x.size
 exact ⟨by omega, by simp, _, [], node_new w1 10 0 [] _ false, rkn_nil _ _ _, rfl⟩

set_option maxRecDepth 100000 in
set_option maxHeartbeats 3200000 in
theorem fail_any {w : World} {R n : Nat} {s : ByteArray} {q : Rs} (h : Rdr w R s n q) :
  Calls Tryz.prog 157 #[.pointer (some ⟨R, 0, none⟩)] w (RetP R s w (failS q).1 (failS q).2) := by
 have hx := RetP.row0 (GX.setCell (p := ⟨R, 4, none⟩) (GX.refl R w) (.inl rfl) (.bool true)) h.lt h.setBad
 have Hx := Lib.hid hx
 obtain ⟨c4, f4⟩ := And.intro h.c4 h.f4
 have hz := h.lt
 clear hx h
 go_enter Tryz.func157, Tryz.ntmps157
 go_wp2
 go_ret
 have h2 := Hx.out
 unfold failS
 simp at h2 ⊢
 exact h2
end Go.Proofs.YtjapddfnpmlifaaGreatDoor
namespace Go.Proofs.YtjapddfnpmlifaaGreatDoor
set_option linter.unusedVariables false
set_option linter.unusedSimpArgs false
open Go.RowKit

structure Gd (b : Nat) (s t : Rs) : Prop where
 r : t.rest.length ≤ s.rest.length
 g : t.groups + t.rest.length ≤ s.groups + s.rest.length + b
 d : t.deep + t.rest.length ≤ s.deep + s.rest.length + b
 m : s.bad = true → t.bad = true
 e : t.bad = false → t.deep = s.deep
theorem Gd.refl (s : Rs) : Gd 0 s s := ⟨Nat.le_refl _, Nat.le_refl _, Nat.le_refl _, id, fun _ => rfl⟩
theorem Gd.trans {s t u : Rs} (h : Gd 0 s t) (k : Gd 0 t u) : Gd 0 s u := by
 obtain ⟨h1, h2, h3, h4, h5⟩ := h
 obtain ⟨k1, k2, k3, k4, k5⟩ := k
 refine ⟨by omega, by omega, by omega, fun x => k4 (h4 x), fun x => ?_⟩
 have hb : t.bad = false := by cases e : t.bad with | false => rfl | true => rw [k4 e] at x; cases x
 rw [k5 x, h5 hb]
theorem Gd.fail {b : Nat} {s t : Rs} (h : Gd b s t) : Gd b s (failS t).2 := ⟨h.r, h.g, h.d, fun _ => rfl, fun x => by cases x⟩
theorem Gd.rest {s : Rs} {r : List UInt8} (h : r.length ≤ s.rest.length) : Gd 0 s { s with rest := r } := ⟨h, by show s.groups + r.length ≤ _; omega, by show s.deep + r.length ≤ _; omega, id, fun _ => rfl⟩
theorem escS_len (r : List UInt8) : (escS r).2.length ≤ r.length := by
 cases r with
 | nil => exact Nat.le_refl _
 | cons c r => unfold escS; simp only; generalize namedB c.toNat = o; cases o <;> simp
theorem sideS_len (r : List UInt8) : (sideS r).2.length ≤ r.length := by
 cases r with
 | nil => exact Nat.le_refl _
 | cons c r =>
  unfold sideS
  cases hb : (c.toNat == 92)
  ·
   simp [hb]
  ·
   cases r with
   | nil => simp [hb]
   | cons d q =>
    simp only [hb, cond_true]
    generalize escS (d :: q) = e
    obtain ⟨_ | g, u⟩ := e <;> (simp; try omega)
theorem clsS_len (k : Nat) : ∀ (f : Bool) (a : Bs) (r : List UInt8), (clsS k f a r).2.length ≤ r.length := by
 induction k with
 | zero => intro f a r; exact Nat.le_refl _
 | succ k ih =>
  intro f a r
  unfold clsS
  cases hb : (f || !headIs 93 r)
  ·
   simp
  ·
   simp only [cond_true]
   have h1 := sideS_len r
   generalize sideS r = e at h1 ⊢
   obtain ⟨_ | ⟨g, x, y⟩, u⟩ := e
   ·
    exact h1
   ·
    simp only at h1 ⊢
    cases hc : (!y && rangesS u)
    ·
     simp only [cond_false]; exact Nat.le_trans (ih _ _ _) h1
    ·
     simp only [cond_true]
     have h2 := sideS_len (u.drop 1)
     have h3 : (u.drop 1).length ≤ u.length := by simp
     generalize sideS (u.drop 1) = e2 at h2 ⊢
     obtain ⟨_ | ⟨g2, x2, y2⟩, u2⟩ := e2
     ·
      simp only at h2 ⊢; omega
     ·
      simp only at h2 ⊢
      cases hd : Nat.blt x2 x
      ·
       simp only [cond_false]; have := ih false (orB a (orB g (runB x x2))) u2; omega
      ·
       simp only [cond_true]; omega
theorem classS_len (r : List UInt8) : (classS r).2.length ≤ r.length := by
 unfold classS
 cases hb : headIs 94 r
 ·
  exact clsS_len _ _ _ _
 ·
  simp only [cond_true]
  have h1 := clsS_len r.length true noB (r.drop 1)
  have h3 : (r.drop 1).length ≤ r.length := by simp
  generalize clsS r.length true noB (r.drop 1) = e at h1 ⊢
  obtain ⟨_ | g, u⟩ := e <;> (simp only at h1 ⊢; omega)
theorem setS_gd {s : Rs} {x : Option Bs × List UInt8} (h : x.2.length ≤ s.rest.length) : Gd 0 s (setS s x).2 := by
 obtain ⟨_ | f, q⟩ := x
 ·
  exact (Gd.rest h).fail
 ·
  exact Gd.rest h
theorem openS_gd (s : Rs) : (openS s).2.rest.length ≤ s.rest.length ∧ (openS s).2.groups + (openS s).2.rest.length ≤ s.groups + s.rest.length + 1 ∧ (openS s).2.deep = s.deep ∧ (openS s).2.bad = s.bad := by
 unfold openS
 cases (headIs 63 s.rest && headIs 58 (s.rest.drop 1))
 ·
  simp; omega
 ·
  simp; omega
variable {W : Rs → Pc × Rs} (hW : ∀ s, Gd 0 s (W s).2)
include hW
theorem groupS_gd (s : Rs) : Gd 1 s (groupS W s).2 := by
 unfold groupS
 cases hb : Nat.ble 64 s.deep
 ·
  simp only [cond_false]
  obtain ⟨o1, o2, o3, o4⟩ := openS_gd { s with deep := s.deep + 1 }
  obtain ⟨h1, h2, h3, h4, h5⟩ := hW (openS { s with deep := s.deep + 1 }).2
  simp only at o1 o2 o3 o4
  generalize (openS { s with deep := s.deep + 1 }).2 = o at *
  generalize W o = t at *
  cases hc : (t.2.bad || !headIs 41 t.2.rest)
  ·
   simp only [cond_false]
   have htb : t.2.bad = false := by cases e : t.2.bad with | false => rfl | true => rw [e] at hc; cases hc
   have hd := h5 htb
   refine ⟨?_, ?_, ?_, ?_, ?_⟩
   ·
    simp; omega
   ·
    simp; omega
   ·
    simp; omega
   ·
    intro x; exact h4 (o4.trans x)
   ·
    intro _; simp; omega
  ·
   simp only [cond_true]
   refine ⟨?_, ?_, ?_, fun _ => rfl, fun x => by cases x⟩
   ·
    simp [failS]; omega
   ·
    simp [failS]; omega
   ·
    simp [failS]; omega
 ·
  simp only [cond_true]
  refine ⟨?_, ?_, ?_, fun _ => rfl, fun x => by cases x⟩ <;> (simp [failS]; try omega)
theorem atomS_gd {s : Rs} {c : UInt8} {r : List UInt8} (h : s.rest = c :: r) : Gd 0 s (atomS W s).2 ∧ (atomS W s).2.rest.length ≤ r.length := by
 have hl : s.rest.length = r.length + 1 := by rw [h]; rfl
 have h0 : Gd 0 s { s with rest := r } := Gd.rest (by omega)
 have hx : ∀ x : Option Bs × List UInt8, x.2.length ≤ r.length → Gd 0 s (setS s x).2 ∧ (setS s x).2.rest.length ≤ r.length := fun x hx => ⟨setS_gd (by omega), by
  obtain ⟨_ | f, q⟩ := x <;> exact hx⟩
 unfold atomS
 rw [h]
 simp only
 cases (c.toNat == 40)
 rotate_left
 ·
  simp only [cond_true]
  obtain ⟨k1, k2, k3, k4, k5⟩ := groupS_gd hW { s with rest := r }
  simp only at k1 k2 k3 k4 k5
  exact ⟨⟨by omega, by omega, by omega, k4, k5⟩, k1⟩
 cases (c.toNat == 94)
 rotate_left
 ·
  exact ⟨h0, Nat.le_refl _⟩
 cases (c.toNat == 36)
 rotate_left
 ·
  exact ⟨h0, Nat.le_refl _⟩
 cases (c.toNat == 46)
 rotate_left
 ·
  exact ⟨h0, Nat.le_refl _⟩
 cases (c.toNat == 91)
 rotate_left
 ·
  exact hx _ (classS_len r)
 cases (c.toNat == 92)
 rotate_left
 ·
  exact hx _ (escS_len r)
 cases stopC c.toNat
 ·
  exact ⟨h0, Nat.le_refl _⟩
 ·
  exact ⟨h0.fail, Nat.le_refl _⟩
theorem pieceS_gd {s : Rs} {c : UInt8} {r : List UInt8} (h : s.rest = c :: r) : Gd 0 s (pieceS W s).2 ∧ (pieceS W s).2.rest.length ≤ r.length := by
 have h0 := atomS_gd hW h
 unfold pieceS
 generalize atomS W s = t at h0 ⊢
 simp only
 cases hb : t.2.bad
 ·
  simp only [cond_false]
  match e : t.2.rest with
  | [] => exact h0
  | d :: q =>
   simp only
   cases repC d.toNat
   ·
    exact h0
   ·
    simp only [cond_true]
    have h1 : (bif headIs 63 q then q.drop 1 else q).length ≤ q.length := by cases headIs 63 q <;> simp
    have h2 : q.length + 1 = t.2.rest.length := by rw [e]; rfl
    have h9 := Gd.rest (s := t.2) (r := bif headIs 63 q then q.drop 1 else q) (by omega)
    rw [hb] at h9
    exact ⟨h0.1.trans h9, by show (bif headIs 63 q then q.drop 1 else q).length ≤ _; omega⟩
 ·
  exact h0
theorem rowS_gd (k : Nat) : ∀ s : Rs, Gd 0 s (rowS W k s).2 := by
 induction k with
 | zero => intro s; exact Gd.refl s
 | succ k ih =>
  intro s
  unfold rowS
  cases hb : (s.bad || endR s.rest)
  ·
   simp only [cond_false]
   obtain ⟨c, r, hr⟩ : ∃ c r, s.rest = c :: r := by
    match e : s.rest with
    | [] => rw [e] at hb; simp [endR] at hb
    | c :: r => exact ⟨c, r, rfl⟩
   exact (pieceS_gd hW hr).1.trans (ih _)
  ·
   exact Gd.refl s
theorem altS_gd (k : Nat) : ∀ s : Rs, Gd 0 s (altS W k s).2 := by
 induction k with
 | zero => intro s; exact Gd.refl s
 | succ k ih =>
  intro s
  unfold altS
  have h0 : Gd 0 s (rowP W s).2 := rowS_gd hW _ s
  generalize rowP W s = t at h0 ⊢
  simp only
  cases hb : (!t.2.bad && headIs 124 t.2.rest)
  ·
   exact h0
  ·
   simp only [cond_true]
   exact (h0.trans (Gd.rest (r := t.2.rest.drop 1) (by simp))).trans (ih _)
omit hW in
theorem waysS_gd (n : Nat) : ∀ s : Rs, Gd 0 s (waysS n s).2 := by
 induction n with
 | zero => intro s; exact (Gd.refl s).fail
 | succ n ih => intro s; exact altS_gd ih _ s
/-- how much is left to count. -/
def BdX (q : Rs) : Prop := q.groups + q.rest.length ≤ 5000 ∧ q.deep + q.rest.length ≤ 5000
omit hW in
theorem Gd.bd {s t : Rs} (h : Gd 0 s t) (k : BdX s) : BdX t := ⟨Nat.le_trans h.g k.1, Nat.le_trans h.d k.2⟩
end Go.Proofs.YtjapddfnpmlifaaGreatDoor
