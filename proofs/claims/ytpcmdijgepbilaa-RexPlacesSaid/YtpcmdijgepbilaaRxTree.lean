/- Where a tree of pieces lies: between two blocks; kept by all that leaves the blocks between alone. No program in sight. -/
import Derived.Test.YtpcmdijgepbilaaRxMem
namespace Go.Proofs.Ytpcmdijgepbilaa
set_option linter.unusedVariables false
set_option linter.unusedSimpArgs false
open Go.RowKit

/-- a slice of pointers to pieces, its array between blocks lo and hi. -/
def Rkn (lo hi : Nat) (w : World) (kids : Value) (bs : List Nat) : Prop :=
  ∃ A c, kids = .slice A bs.length c ∧ Rd w 1 A bs.length (ptrs bs) ∧ (0 < bs.length → ∀ ad, A = some ad → lo < ad.block ∧ ad.block < hi)
mutual
/-- a piece lies at block b, all of it between blocks lo and hi. -/
def Pc.In (lo hi : Nat) (w : World) : Pc → Nat → Prop
  | .leaf op ps, b => lo < b ∧ b < hi ∧ Node w b op ps (.slice none 0 0) 0 false
  | .row l, b => lo < b ∧ b < hi ∧ ∃ kids bs, Node w b 10 [] kids 0 false ∧ Rkn lo hi w kids bs ∧ l.In lo hi w bs
  | .ways l, b => lo < b ∧ b < hi ∧ ∃ kids bs, Node w b 11 [] kids 0 false ∧ Rkn lo hi w kids bs ∧ l.In lo hi w bs
  | .group g k, b => lo < b ∧ b < hi ∧ ∃ kids bk, Node w b 12 [] kids g false ∧ Rkn lo hi w kids [bk] ∧ k.In lo hi w bk
  | .rep op z k, b => lo < b ∧ b < hi ∧ ∃ kids bk, Node w b op [] kids 0 z ∧ Rkn lo hi w kids [bk] ∧ k.In lo hi w bk
def PcL.In (lo hi : Nat) (w : World) : PcL → List Nat → Prop
  | .nil, bs => bs = []
  | .cons p l, bs => ∃ b r, bs = b :: r ∧ p.In lo hi w b ∧ l.In lo hi w r
end
/-- the blocks between are as they were. -/
def Same (lo hi : Nat) (w w' : World) : Prop := hi ≤ w'.heap.size ∧ ∀ k, lo < k → k < hi → w'.heap[k]? = w.heap[k]?
section
variable {lo hi : Nat} {w w' : World}
theorem Same.node (h : Same lo hi w w') {b op g : Nat} {ps : List UInt8} {kids : Value} {z : Bool} (h0 : lo < b) (h1 : b < hi) (n : Node w b op ps kids g z) : Node w' b op ps kids g z := by
  have e := h.2 b h0 h1
  obtain ⟨n0, n1, n2, n3, n4⟩ := n
  exact ⟨(World.cell?_of_block (a := ⟨b, 0, none⟩) e).trans n0, (World.cell?_of_block (a := ⟨b, 1, none⟩) e).trans n1, (World.cell?_of_block (a := ⟨b, 2, none⟩) e).trans n2, (World.cell?_of_block (a := ⟨b, 3, none⟩) e).trans n3, (World.cell?_of_block (a := ⟨b, 4, none⟩) e).trans n4⟩
theorem Rkn.same (h : Same lo hi w w') {kids : Value} {bs : List Nat} (r : Rkn lo hi w kids bs) : Rkn lo hi w' kids bs := by
  obtain ⟨A, c, e, hr, hb⟩ := r
  refine ⟨A, c, e, ⟨hr.1, fun h0 => ?_⟩, hb⟩
  obtain ⟨ad, e, _, hc⟩ := hr.2 h0
  obtain ⟨b0, b1⟩ := hb h0 ad e
  refine ⟨ad, e, Nat.lt_of_lt_of_le b1 h.1, fun j u hu => ?_⟩
  have e2 : w'.heap[(ad.add j).block]? = w.heap[(ad.add j).block]? := by rw [add_blk]; exact h.2 _ b0 b1
  exact (World.cell?_of_block (a := ad.add j) e2).trans (hc j u hu)
mutual
theorem Pc.In.same (h : Same lo hi w w') : ∀ (p : Pc) (b : Nat), p.In lo hi w b → p.In lo hi w' b
  | .leaf op ps, b, k => by
    simp only [Pc.In] at k ⊢
    exact ⟨k.1, k.2.1, h.node k.1 k.2.1 k.2.2⟩
  | .row l, b, k => by
    simp only [Pc.In] at k ⊢
    obtain ⟨k0, k1, kids, bs, k2, k3, k4⟩ := k
    exact ⟨k0, k1, kids, bs, h.node k0 k1 k2, k3.same h, PcL.In.same h l bs k4⟩
  | .ways l, b, k => by
    simp only [Pc.In] at k ⊢
    obtain ⟨k0, k1, kids, bs, k2, k3, k4⟩ := k
    exact ⟨k0, k1, kids, bs, h.node k0 k1 k2, k3.same h, PcL.In.same h l bs k4⟩
  | .group g p, b, k => by
    simp only [Pc.In] at k ⊢
    obtain ⟨k0, k1, kids, bk, k2, k3, k4⟩ := k
    exact ⟨k0, k1, kids, bk, h.node k0 k1 k2, k3.same h, Pc.In.same h p bk k4⟩
  | .rep op z p, b, k => by
    simp only [Pc.In] at k ⊢
    obtain ⟨k0, k1, kids, bk, k2, k3, k4⟩ := k
    exact ⟨k0, k1, kids, bk, h.node k0 k1 k2, k3.same h, Pc.In.same h p bk k4⟩
theorem PcL.In.same (h : Same lo hi w w') : ∀ (l : PcL) (bs : List Nat), l.In lo hi w bs → l.In lo hi w' bs
  | .nil, bs, k => by simpa only [PcL.In] using k
  | .cons p l, bs, k => by
    simp only [PcL.In] at k ⊢
    obtain ⟨b, r, e, k1, k2⟩ := k
    exact ⟨b, r, e, Pc.In.same h p b k1, PcL.In.same h l r k2⟩
end
theorem Rkn.wide {lo' hi' : Nat} (h0 : lo' ≤ lo) (h1 : hi ≤ hi') {kids : Value} {bs : List Nat} (r : Rkn lo hi w kids bs) : Rkn lo' hi' w kids bs := by
  obtain ⟨A, c, e, hr, hb⟩ := r
  exact ⟨A, c, e, hr, fun h ad ha => by have := hb h ad ha; omega⟩
mutual
theorem Pc.In.wide {lo' hi' : Nat} (h0 : lo' ≤ lo) (h1 : hi ≤ hi') : ∀ (p : Pc) (b : Nat), p.In lo hi w b → p.In lo' hi' w b
  | .leaf op ps, b, k => by
    simp only [Pc.In] at k ⊢
    exact ⟨by omega, by omega, k.2.2⟩
  | .row l, b, k => by
    simp only [Pc.In] at k ⊢
    obtain ⟨k0, k1, kids, bs, k2, k3, k4⟩ := k
    exact ⟨by omega, by omega, kids, bs, k2, k3.wide h0 h1, PcL.In.wide h0 h1 l bs k4⟩
  | .ways l, b, k => by
    simp only [Pc.In] at k ⊢
    obtain ⟨k0, k1, kids, bs, k2, k3, k4⟩ := k
    exact ⟨by omega, by omega, kids, bs, k2, k3.wide h0 h1, PcL.In.wide h0 h1 l bs k4⟩
  | .group g p, b, k => by
    simp only [Pc.In] at k ⊢
    obtain ⟨k0, k1, kids, bk, k2, k3, k4⟩ := k
    exact ⟨by omega, by omega, kids, bk, k2, k3.wide h0 h1, Pc.In.wide h0 h1 p bk k4⟩
  | .rep op z p, b, k => by
    simp only [Pc.In] at k ⊢
    obtain ⟨k0, k1, kids, bk, k2, k3, k4⟩ := k
    exact ⟨by omega, by omega, kids, bk, k2, k3.wide h0 h1, Pc.In.wide h0 h1 p bk k4⟩
theorem PcL.In.wide {lo' hi' : Nat} (h0 : lo' ≤ lo) (h1 : hi ≤ hi') : ∀ (l : PcL) (bs : List Nat), l.In lo hi w bs → l.In lo' hi' w bs
  | .nil, bs, k => by simpa only [PcL.In] using k
  | .cons p l, bs, k => by
    simp only [PcL.In] at k ⊢
    obtain ⟨b, r, e, k1, k2⟩ := k
    exact ⟨b, r, e, Pc.In.wide h0 h1 p b k1, PcL.In.wide h0 h1 l r k2⟩
end
theorem Same.gr (h : Gr w w') (hh : hi ≤ w.heap.size) : Same lo hi w w' := ⟨Nat.le_trans hh h.size, fun k _ hk => Below.block h k (by omega)⟩
theorem Same.gx {R : Nat} (h : GX R w w') (hh : hi ≤ w.heap.size) (hR : R ≤ lo) : Same lo hi w w' := ⟨Nat.le_trans hh h.size, fun k h0 hk => h.block k (by omega) (by omega)⟩
theorem Same.grown {row : Option Nat} (h : w.grownBy w' row) (hh : hi ≤ w.heap.size) (hr : ∀ g, row = some g → g ≤ lo ∨ hi ≤ g) : Same lo hi w w' := by
  refine ⟨Nat.le_trans hh h.size, fun k h0 hk => h.block k (by omega) fun e => ?_⟩
  have := hr k e.symm
  omega
theorem Same.set {p : Addr} (hh : hi ≤ w.heap.size) (hp : p.block ≤ lo ∨ hi ≤ p.block) (u : Value) : Same lo hi w (w.setCell p u) :=
  ⟨by simpa using hh, fun k h0 hk => heap_setCell_other w p k u (by omega)⟩
theorem Pc.In.lt {p : Pc} {b : Nat} (h : p.In lo hi w b) : lo < b ∧ b < hi := by
  cases p <;> (simp only [Pc.In] at h; exact ⟨h.1, h.2.1⟩)
end
/-- pieces, one behind the other. -/
def PcL.app : PcL → PcL → PcL
  | .nil, m => m
  | .cons p l, m => .cons p (l.app m)
/-- pieces that lie each where no block g is. -/
def Kids (base g : Option Nat) (w : World) (l : List Pc) (bs : List Nat) : Prop := l.length = bs.length ∧ ∀ i (h : i < l.length) (h' : i < bs.length), ∃ lo hi, l[i].In lo hi w bs[i] ∧ (∀ k, base = some k → k ≤ lo) ∧ hi ≤ w.heap.size ∧ (∀ k, g = some k → k ≤ lo ∨ hi ≤ k)
theorem Kids.nil (base g : Option Nat) (w : World) : Kids base g w [] [] := ⟨rfl, fun i h => absurd h (by simp)⟩
theorem Kids.gr {base g : Option Nat} {w w' : World} {l : List Pc} {bs : List Nat} (h : Kids base g w l bs) (x : Gr w w') : Kids base g w' l bs :=
  ⟨h.1, fun i hi hi' => by
    obtain ⟨lo, hi, k, kb, kh, kg⟩ := h.2 i hi hi'
    exact ⟨lo, hi, Pc.In.same (Same.gr x kh) _ _ k, kb, Nat.le_trans kh x.size, kg⟩⟩
theorem Kids.gx {R B : Nat} {g : Option Nat} {w w' : World} {l : List Pc} {bs : List Nat} (h : Kids (some B) g w l bs) (x : GX R w w') (hR : R ≤ B) : Kids (some B) g w' l bs :=
  ⟨h.1, fun i hi hi' => by
    obtain ⟨lo, hi, k, kb, kh, kg⟩ := h.2 i hi hi'
    exact ⟨lo, hi, Pc.In.same (Same.gx x kh (Nat.le_trans hR (kb B rfl))) _ _ k, kb, Nat.le_trans kh x.size, kg⟩⟩
/-- one more, behind an append. -/
theorem Kids.push {B : Nat} {g g' : Option Nat} {w w' : World} {l : List Pc} {bs : List Nat} (h : Kids (some B) g w l bs) (x : w.grownBy w' g) (hg : g' = g ∨ g' = some w.heap.size) {p : Pc} {b lo hi : Nat} (k : p.In lo hi w b) (kb : B ≤ lo) (kh : hi ≤ w.heap.size) (kg : ∀ j, g = some j → j ≤ lo) : Kids (some B) g' w' (l ++ [p]) (bs ++ [b]) := by
  have hnew : ∀ j, g' = some j → (g = some j ∨ j = w.heap.size) := fun j hj => by
    rcases hg with e | e
    · exact .inl (e ▸ hj)
    · rw [e] at hj; injection hj with hj; exact .inr hj.symm
  refine ⟨by simp [h.1], fun i hi' hi2 => ?_⟩
  by_cases hl : i < l.length
  · have hb : i < bs.length := by rw [← h.1]; exact hl
    obtain ⟨lo', hi'', k', kb', kh', kg'⟩ := h.2 i hl hb
    rw [List.getElem_append_left hl, List.getElem_append_left hb]
    refine ⟨lo', hi'', Pc.In.same (Same.grown x kh' kg') _ _ k', kb', Nat.le_trans kh' x.size, fun j hj => ?_⟩
    rcases hnew j hj with e | e
    · exact kg' j e
    · exact .inr (by omega)
  · have hil : i = l.length := by simp at hi'; omega
    subst hil
    have e1 : (l ++ [p])[l.length] = p := by simp
    have e2 : (bs ++ [b])[l.length]'hi2 = b := by simp [h.1]
    rw [e1, e2]
    refine ⟨lo, hi, Pc.In.same (Same.grown x kh (fun j hj => .inl (kg j hj))) _ _ k, fun j hj => by injection hj with hj; omega, Nat.le_trans kh x.size, fun j hj => ?_⟩
    rcases hnew j hj with e | e
    · exact .inl (kg j e)
    · exact .inr (by omega)
theorem Kids.list {B : Nat} {g : Option Nat} {w : World} : ∀ {l : List Pc} {bs : List Nat}, Kids (some B) g w l bs → (PcL.ofList l).In B w.heap.size w bs
  | [], bs, h => by
    have : bs = [] := List.eq_nil_of_length_eq_zero h.1.symm
    subst this
    simp only [PcL.ofList, PcL.In]
  | p :: l, [], h => by have := h.1; simp at this
  | p :: l, b :: r, h => by
    simp only [PcL.ofList, PcL.In]
    obtain ⟨lo, hi, k, kb, kh, _⟩ := h.2 0 (by simp) (by simp)
    refine ⟨b, r, rfl, Pc.In.wide (kb B rfl) kh _ _ k, Kids.list (g := g) ⟨by simpa using h.1, fun i hi hi' => ?_⟩⟩
    have := h.2 (i + 1) (by simpa using hi) (by simpa using hi')
    simpa using this
end Go.Proofs.Ytpcmdijgepbilaa
