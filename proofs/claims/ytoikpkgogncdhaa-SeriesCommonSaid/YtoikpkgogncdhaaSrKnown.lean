/- The contract of the law's known: what is shrunk. -/
import Derived.Test.YtoikpkgogncdhaaSrShrink
namespace Go.Proofs.Ytoikpkgogncdhaa
set_option linter.unusedVariables false
set_option linter.unusedSimpArgs false
open Go.RowKit

def seqL (k : Nat) : List Vl := (List.range k).map fun (i : Nat) => ⟨true, (i : Int) + 1⟩
theorem seqL_len (k : Nat) : (seqL k).length = k := by simp [seqL]
theorem seqL_succ (k : Nat) : seqL (k + 1) = seqL k ++ [⟨true, (k : Int) + 1⟩] := by simp [seqL, List.range_succ]
theorem shrunk5 : shrinkS ⟨⟨#[97]⟩, 0, 10, seqL 5, 0⟩ 2 = ⟨⟨#[97]⟩, 0, 30, [⟨true, 2⟩, ⟨true, 5⟩], 0⟩ := by kernel_rfl
theorem own_cap {w : World} {base : Nat} {e : TypeId} {size n c : Nat} {A : Option Addr} {xs : List Value} (h : w.ownsRow base e size (.slice A n c) n xs) : n ≤ c := by
  obtain ⟨_, ⟨hv, h0⟩ | ⟨g, cap, cur, hv, _, _, hc, _⟩⟩ := h
  · omega
  · injection hv with _ _ h3; omega
theorem shrink5 (A' : Option Addr) (c' : Nat) (w : World) (hcap : 5 ≤ c') (hr : Rv w A' (seqL 5)) :
    Calls Try.prog 16 #[.agg #[.string ⟨#[97]⟩, .int .i64 0, .int .i64 10, .slice A' 5 c', .int .i64 0], .int .i64 2] w fun e w' =>
      ∃ A2 c2, e = .returned (.agg #[.string ⟨#[97]⟩, .int .i64 0, .int .i64 30, .slice A2 2 c2, .int .i64 0]) ∧ Rv w' A2 [⟨true, 2⟩, ⟨true, 5⟩] ∧ Gr w w' := by
  have h := shrink_any ⟨⟨#[97]⟩, 0, 10, seqL 5, 0⟩ A' c' 2 w (by rw [seqL_len]; omega) (by rw [seqL_len]; exact hcap) hr
  rw [shrunk5] at h
  exact h.mono (fun e w' ⟨A2, c2, he, hr, hg, _⟩ => ⟨A2, c2, he, hr, hg⟩)

def KC (B : Nat) (v : Value) (W : World) : Prop := W.cell? ⟨B, 0, none⟩ = some (.string ⟨#[97]⟩) ∧ W.cell? ⟨B, 1, none⟩ = some (.int .i64 0) ∧ W.cell? ⟨B, 2, none⟩ = some (.int .i64 10) ∧ W.cell? ⟨B, 3, none⟩ = some (v) ∧ W.cell? ⟨B, 4, none⟩ = some (.int .i64 0) ∧ W.frozen? ⟨B, 3, none⟩ = false ∧ B < W.heap.size
theorem KC.below {B : Nat} {v : Value} {W W' : World} (h : KC B v W) (g : Below (B + 1) W W') : KC B v W' := by
  obtain ⟨c0, c1, c2, c3, c4, f3, sz⟩ := h
  exact ⟨(g.cell (p := ⟨B, 0, none⟩) (Nat.lt_succ_self B)).trans c0, (g.cell (p := ⟨B, 1, none⟩) (Nat.lt_succ_self B)).trans c1, (g.cell (p := ⟨B, 2, none⟩) (Nat.lt_succ_self B)).trans c2, (g.cell (p := ⟨B, 3, none⟩) (Nat.lt_succ_self B)).trans c3, (g.cell (p := ⟨B, 4, none⟩) (Nat.lt_succ_self B)).trans c4, (g.frozen (p := ⟨B, 3, none⟩) (Nat.lt_succ_self B)).trans f3, Nat.lt_of_lt_of_le sz g.size⟩
theorem KC.set {B : Nat} {v : Value} {W : World} (h : KC B v W) (u : Value) : KC B u (W.setCell ⟨B, 3, none⟩ u) := by
  obtain ⟨c0, c1, c2, c3, c4, f3, sz⟩ := h
  refine ⟨?_, ?_, ?_, ?_, ?_, ?_, ?_⟩
  · exact (World.cell?_setCell_other W ⟨B, 3, none⟩ ⟨B, 0, none⟩ _ (by simp)).trans c0
  · exact (World.cell?_setCell_other W ⟨B, 3, none⟩ ⟨B, 1, none⟩ _ (by simp)).trans c1
  · exact (World.cell?_setCell_other W ⟨B, 3, none⟩ ⟨B, 2, none⟩ _ (by simp)).trans c2
  · go_simp
  · exact (World.cell?_setCell_other W ⟨B, 3, none⟩ ⟨B, 4, none⟩ _ (by simp)).trans c4
  · exact (by simp : (W.setCell ⟨B, 3, none⟩ u).frozen? ⟨B, 3, none⟩ = W.frozen? ⟨B, 3, none⟩).trans f3
  · simpa using sz

set_option maxRecDepth 100000 in
set_option maxHeartbeats 3200000 in
theorem known18_any (w : World) : Calls Try.prog 15 #[] w fun e w' => e = .returned (.bool true) ∧ Gr w w' := by
  obtain ⟨i0, hi0, hz0, hz1, hz2⟩ := info_parts info_val
  go_enter Try.func15, Try.ntmps15
  go_wp2
  go_loopw [2] (fun i wr => ∃ (k : Nat) (v : Value), k ≤ 5 ∧ i = .int .i64 ((k : Int) + 1) ∧ Gr w wr ∧ KC w.heap.size v wr ∧ wr.ownsRow (w.heap.size + 1) 34 2 v k (vcells (seqL k))) (fun i _ => (6 - intOf i).toNat)
  case atStart =>
    refine ⟨0, _, Nat.zero_le _, rfl, Gr.alloc (Gr.refl _) _, ?_, World.ownsRow_nil _ _ _ _⟩
    refine ⟨?_, ?_, ?_, ?_, ?_, ?_, ?_⟩
    all_goals first | (go_simp; done) | (simp; done) | (simp; omega)
  case round =>
    obtain ⟨k, v, hk, rfl, hgr, hKC, hown⟩ := hrel
    obtain ⟨c0, c1, c2, c3, c4, f3, sz⟩ := id hKC
    by_cases hlt : k < 5
    · have hrx := Rv.new (W := wr) rfl 34 [⟨true, (k : Int) + 1⟩]
      have hv0 := hown.alloc (.cells (vcells [⟨true, (k : Int) + 1⟩]).toArray 34)
      have hvl := hown.lt
      go_wp2_with
        (at_builtin
         go_loud
          (refine wpList_append_rd rfl (.tmp 10) (.tmp 13) 22 rfl (w.heap.size + 1) 34 i0 _ 2 16 Try.underlying22 hi0 hz0 hz1 hz2 rfl (by decide) _ k _ rfl hv0 (some ⟨wr.heap.size, 0, none⟩) 1 _ (vcells [⟨true, (k : Int) + 1⟩]) rfl hrx (vcells_one _) (by unfold maxLen; omega) (by omega) (by simp; omega) ?_
           intro v' w3 hown3 hgr3 hat3
           obtain ⟨A3, cq, hv⟩ := own_form hown3
           subst hv
           have hg3 : Gr w w3 := Gr.grown (Gr.alloc hgr _) hgr3 (fun j hj => by have := (hvl j hj).1; omega)
           have hB3 : Below (w.heap.size + 1) wr w3 := Below.grown (Below.alloc (Below.refl _ _) (by omega) _) hgr3 (by simp; omega) (fun j hj => (hvl j hj).1)
           have hK3 := hKC.below hB3
           have hg4 := Gr.setCell hg3 (p := ⟨w.heap.size, 3, none⟩) (Nat.le_refl _) (.slice A3 (k + 1) cq)
           have hK4 := hK3.set (.slice A3 (k + 1) cq)
           have hown4 := own_set hown3 (p := ⟨w.heap.size, 3, none⟩) (Nat.lt_succ_self _) (.slice A3 (k + 1) cq)
           clear hgr3 hat3 hv0 hvl hrx hB3 c0 c1 c2 c3 c4 f3 sz hKC hgr hown hown3 hg3
           obtain ⟨c0, c1, c2, c3, c4, f3, sz⟩ := id hK3))
      clear c0 c1 c2 c3 c4 f3 sz
      go_roundw
      case rel => exact ⟨k + 1, _, by omega, by go_num, hg4, hK4, by rw [seqL_succ, vcells_append]; exact hown4⟩
      case measure => simp [intOf]; omega
    · have hkk : k = 5 := by omega
      subst hkk
      obtain ⟨A', c', hv⟩ := own_form hown
      subst hv
      have hcap := own_cap hown
      have hr5 : Rv wr A' (seqL 5) := by have h := Rd.own hown; unfold Rv; rw [seqL_len]; exact h
      go_wp2_with fail
      refine (shrink5 A' c' _ hcap hr5).mono ?_; rintro e w5 ⟨A2, cc, rfl, hr2, hg5⟩
      obtain ⟨ad, rfl, hb, hx0, hx1⟩ := hr2.at (show 0 < 2 by decide)
      obtain ⟨ad', e', _, hy0, hy1⟩ := hr2.at (show 1 < 2 by decide)
      injection e' with e'
      subst e'
      have e0 : ad.add 0 = ad := by simp [Addr.add]
      simp only [Nat.zero_mul, Nat.one_mul, e0] at hx0 hx1 hy0 hy1
      have hb2 : (ad.add 2).block < w5.heap.size := by rw [add_blk]; exact hb
      have e2 : ad.add 2 = ⟨ad.block, ad.off + 2, none⟩ := rfl
      rw [e2] at hy0 hy1 hb2
      clear e0 e2
      have hgw : Gr w w5 := Gr.trans hgr hg5
      clear c0 c1 c2 c3 c4 f3 sz hKC hgr hown hr5 hcap hg5 hr2
      go_wp2
      go_ret
      exact ⟨rfl, Gr.alloc hgw _⟩
end Go.Proofs.Ytoikpkgogncdhaa
