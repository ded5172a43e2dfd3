/- The law FixedAdds of chapter 1, walked. -/
import Derived.Test.YtafmbnpcdhpppaaFxLaw2
import Derived.Test.YtafmbnpcdhpppaaAppend
import Derived.BigQuiet
import Derived.Deep.QuietTactic
namespace Go.Proofs.Ytafmbnpcdhpppaa
open Go.RowKit

theorem info_val : (Try.prog.info? 23).map (fun i => (i.zero, i.size, i.bytes)) = some (some (.agg #[.bool false, .int .i64 0]), 2, 16) := by kernel_rfl

set_option maxRecDepth 100000 in
set_option maxHeartbeats 3200000 in
theorem law_FixedAdds (A : Option Addr) (c : Nat) (l : List Vl) (w : World) (hl : l.length ≤ maxLen) (hr : Rv w A l) :
    Calls Try.prog 8 #[.slice A l.length c] w fun e w' => e = .returned (.bool true) ∧ Gr w w' := by
  unfold maxLen at hl
  by_cases h200 : (200 : Int) < (l.length : Int)
  · go_enter Try.func8, Try.ntmps8
    go_wp2
    go_ret
    exact ⟨rfl, Gr.refl _⟩
  obtain ⟨i0, hi, hz0, hz1, hz2⟩ := info_parts info_val
  have hlm : l.length ≤ 200 := by omega
  go_enter Try.func8, Try.ntmps8
  have hr1 : Rd (w.alloc (.cells #[] 23)) 2 A l.length (vcells l) := Rv.gr hr (Gr.alloc (Gr.refl _) _)
  go_wp2_with (at_builtin; refine wpList_append_rd rfl (.tmp 9) (.tmp 10) 34 rfl w.heap.size 23 i0 _ 2 16 Try.underlying34 hi hz0 hz1 hz2 rfl (by decide) (.slice (some ⟨w.heap.size, 0, none⟩) 0 0) 0 [] rfl (World.ownsRow_lit w #[] 0 (Nat.le_refl _) (Nat.zero_le _) rfl) A l.length c (vcells l) rfl hr1 (vcells_one l) (by unfold maxLen; omega) (by omega) (by simp) ?_; intro v' w1 hown hgr hat)
  obtain ⟨A', c', hv⟩ := own_form hown
  subst hv
  simp only [Nat.zero_add, List.nil_append] at hown
  rw [Nat.zero_add]
  have g1 : Gr w w1 := Gr.grown (Gr.alloc (Gr.refl _) _) hgr (by intro k hk; simp [Value.ownBlock] at hk; omega)
  have hr2 : Rv w1 A' l := Rd.own hown
  refine (add_any A' c' l _ (by unfold maxLen; omega) hr2).mono ?_; rintro e w2 ⟨rfl, hg⟩; have hz := hg.size
  go_wp2
  obtain ⟨C, hC⟩ : ∃ C, C = w2.heap.size := ⟨_, rfl⟩
  rw [← hC]
  obtain ⟨W3, hW3⟩ : ∃ W3, W3 = w2.alloc (.cells #[.bool (addV l).ok, .int .i64 (addV l).n] 23) := ⟨_, rfl⟩
  rw [← hW3]
  have es : W3.cell? ⟨C, 0, none⟩ = some (.bool (addV l).ok) ∧ W3.cell? ⟨C, 1, none⟩ = some (.int .i64 (addV l).n) ∧ C < W3.heap.size := by
    rw [hW3, hC]
    refine ⟨?_, ?_, ?_⟩ <;> go_simp
  have g3 : Gr w W3 := by rw [hW3]; exact (by repeat (first | exact Gr.refl _ | refine Gr.alloc ?_ _ | refine Gr.drew ?_ | refine Gr.setCell ?_ (by first | (simp; done) | (simp; omega) | omega) _ | refine Gr.trans ?_ (by assumption)))
  have ra : Rv W3 A l := hr.gr g3
  have rb : Rv W3 A' l := hr2.gr (by rw [hW3]; exact Gr.alloc hg _)
  clear hW3 hC hg hr hr1 hr2 hown hgr hat g1 hz
  go_loopw [5] (fun i wr => ∃ k n : Nat, k ≤ l.length ∧ i = .int .i64 k ∧ wr = W3.drewN n) (fun i _ => l.length - (intOf i).toNat)
  case atStart => exact ⟨0, 0, Nat.zero_le _, rfl, rfl⟩
  case round =>
    obtain ⟨k, n, hk, rfl, rfl⟩ := hrel
    by_cases hlt : k < l.length
    · obtain ⟨ad, rfl, hb, hx0, hx1⟩ := ra.at hlt
      obtain ⟨ad', rfl, hb', hy0, hy1⟩ := rb.at hlt
      go_wp2
      go_quiet (fail)
      go_wp2
      go_roundw
      case rel => exact ⟨k + 1, _, by omega, by go_num, rfl⟩
      case measure => simp [intOf]; omega
    · have hkk : k = l.length := by omega
      subst hkk
      go_wp2
      go_region_held3 (fun W => W.cell? ⟨C, 0, none⟩ = some (.bool (addV l).ok) ∧ W.cell? ⟨C, 1, none⟩ = some (.int .i64 (addV l).n) ∧ C < W.heap.size) (first | exact es | go_keep)
        (first
          | (go_at_call 28; refine (radd_any A c l _ (by unfold maxLen; omega) (ra.gr (Gr.drewN (Gr.refl _) _))).mono ?_; rintro e w4 ⟨rfl, hg4⟩; have es := Gr.one hg4 es)
          | (go_at_call 18; refine (known_any _).mono ?_; rintro e w4 ⟨rfl, hg4⟩; have es := Gr.one hg4 es))
      go_wp2
      go_ret
      exact ⟨rfl, (by repeat (first | exact g3 | refine Gr.drewN ?_ _ | refine Gr.drew ?_ | refine Gr.trans ?_ (by assumption)))⟩
end Go.Proofs.Ytafmbnpcdhpppaa
