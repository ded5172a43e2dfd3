/- The law FixedHalves of chapter 1, walked. -/
import Derived.Test.YtafmbnpcdhpppaaFxLaw2
namespace Go.Proofs.Ytafmbnpcdhpppaa
open Go.RowKit

set_option maxRecDepth 100000 in
set_option maxHeartbeats 3200000 in
theorem law_FixedHalves (q c r : Int) (hi : -9223372036854775808 ≤ q ∧ q ≤ 9223372036854775807) (hi1 : -9223372036854775808 ≤ c ∧ c ≤ 9223372036854775807) (hi2 : -9223372036854775808 ≤ r ∧ r ≤ 9223372036854775807) (w : World) :
    Calls Try.prog 6 #[.int .i64 q, .int .i64 c, .int .i64 r] w fun e w' => e = .returned (.bool true) ∧ Gr w w' := by
  by_cases g0 : q < -1073741824
  · go_enter Try.func6, Try.ntmps6
    go_wp2_with fail
    refine (known_any _).mono ?_; rintro e w1 ⟨rfl, hg⟩
    go_wp2
    go_ret
    exact ⟨rfl, (by repeat (first | exact Gr.refl _ | refine Gr.alloc ?_ _ | refine Gr.drew ?_ | refine Gr.setCell ?_ (by first | (simp; done) | (simp; omega) | omega) _ | refine Gr.trans ?_ (by assumption)))⟩
  by_cases g1 : 1073741824 < q
  · go_enter Try.func6, Try.ntmps6
    go_wp2_with fail
    refine (known_any _).mono ?_; rintro e w1 ⟨rfl, hg⟩
    go_wp2
    go_ret
    exact ⟨rfl, (by repeat (first | exact Gr.refl _ | refine Gr.alloc ?_ _ | refine Gr.drew ?_ | refine Gr.setCell ?_ (by first | (simp; done) | (simp; omega) | omega) _ | refine Gr.trans ?_ (by assumption)))⟩
  by_cases g2 : c < 1
  · go_enter Try.func6, Try.ntmps6
    go_wp2_with fail
    refine (known_any _).mono ?_; rintro e w1 ⟨rfl, hg⟩
    go_wp2
    go_ret
    exact ⟨rfl, (by repeat (first | exact Gr.refl _ | refine Gr.alloc ?_ _ | refine Gr.drew ?_ | refine Gr.setCell ?_ (by first | (simp; done) | (simp; omega) | omega) _ | refine Gr.trans ?_ (by assumption)))⟩
  by_cases g3 : 1048576 < c
  · go_enter Try.func6, Try.ntmps6
    go_wp2_with fail
    refine (known_any _).mono ?_; rintro e w1 ⟨rfl, hg⟩
    go_wp2
    go_ret
    exact ⟨rfl, (by repeat (first | exact Gr.refl _ | refine Gr.alloc ?_ _ | refine Gr.drew ?_ | refine Gr.setCell ?_ (by first | (simp; done) | (simp; omega) | omega) _ | refine Gr.trans ?_ (by assumption)))⟩
  by_cases g4 : r < 0
  · go_enter Try.func6, Try.ntmps6
    go_wp2_with fail
    refine (known_any _).mono ?_; rintro e w1 ⟨rfl, hg⟩
    go_wp2
    go_ret
    exact ⟨rfl, (by repeat (first | exact Gr.refl _ | refine Gr.alloc ?_ _ | refine Gr.drew ?_ | refine Gr.setCell ?_ (by first | (simp; done) | (simp; omega) | omega) _ | refine Gr.trans ?_ (by assumption)))⟩
  by_cases g5 : c ≤ r
  · go_enter Try.func6, Try.ntmps6
    go_wp2_with fail
    refine (known_any _).mono ?_; rintro e w1 ⟨rfl, hg⟩
    go_wp2
    go_ret
    exact ⟨rfl, (by repeat (first | exact Gr.refl _ | refine Gr.alloc ?_ _ | refine Gr.drew ?_ | refine Gr.setCell ?_ (by first | (simp; done) | (simp; omega) | omega) _ | refine Gr.trans ?_ (by assumption)))⟩
  have gq1 : -1073741824 ≤ q := by omega
  have gq2 : q ≤ 1073741824 := by omega
  have gc1 : 1 ≤ c := by omega
  have gc2 : c ≤ 1048576 := by omega
  have gr1 : 0 ≤ r := by omega
  have gr2 : r < c := by omega
  have hp1 : -1125899906842624 ≤ q * c := by
    have h := Int.mul_le_mul_of_nonneg_right (a := -1073741824) (b := q) (c := c) gq1 (by omega)
    omega
  have hp2 : q * c ≤ 1125899906842624 := by
    have h := Int.mul_le_mul_of_nonneg_right (a := q) (b := 1073741824) (c := c) gq2 (by omega)
    omega
  obtain ⟨k1, k2⟩ := half_a gq1 gq2 gc1 gc2 gr1 gr2
  obtain ⟨k3, k4⟩ := half_b gq1 gq2 gc1 gc2 gr1 gr2
  have M := Lib.hid (muldiv_at (q * c + r) 1 c (by omega) (by omega) (by omega) (by omega) (by omega) (by omega))
  have N := Lib.hid (muldiv_at 1 (-(q * c + r)) (-c) (by omega) (by omega) (by omega) (by omega) (by omega) (by omega))
  rw [k1, k2] at M
  rw [k3, k4] at N
  clear k1 k2 k3 k4
  by_cases c1 : c < 2 * r
  · have hh : halfN q c r = q + 1 := by unfold halfN; rw [if_pos (Or.inl c1)]
    rw [hh] at M N
    clear hh
    go_enter Try.func6, Try.ntmps6
    go_wp2_with fail
    refine (M.out _).mono ?_; rintro e w1 ⟨rfl, hg⟩
    go_wp2_with fail
    refine (N.out _).mono ?_; rintro e w1 ⟨rfl, hg⟩
    go_wp2_with fail
    refine (known_any _).mono ?_; rintro e w1 ⟨rfl, hg⟩
    go_wp2
    go_ret
    exact ⟨rfl, (by repeat (first | exact Gr.refl _ | refine Gr.alloc ?_ _ | refine Gr.drew ?_ | refine Gr.setCell ?_ (by first | (simp; done) | (simp; omega) | omega) _ | refine Gr.trans ?_ (by assumption)))⟩
  by_cases c2 : 2 * r = c
  · have c2' : (2 * r == c) = true := by simp [c2]
    by_cases c3 : 0 < q * c + r
    · have hh : halfN q c r = q + 1 := by unfold halfN; rw [if_pos (Or.inr ⟨c2, c3⟩)]
      have C2 := Lib.hid c2; clear c2
      rw [hh] at M N
      clear hh
      go_enter Try.func6, Try.ntmps6
      go_wp2_with fail
      refine (M.out _).mono ?_; rintro e w1 ⟨rfl, hg⟩
      go_wp2_with fail
      refine (N.out _).mono ?_; rintro e w1 ⟨rfl, hg⟩
      go_wp2_with fail
      refine (known_any _).mono ?_; rintro e w1 ⟨rfl, hg⟩
      go_wp2
      go_ret
      exact ⟨rfl, (by repeat (first | exact Gr.refl _ | refine Gr.alloc ?_ _ | refine Gr.drew ?_ | refine Gr.setCell ?_ (by first | (simp; done) | (simp; omega) | omega) _ | refine Gr.trans ?_ (by assumption)))⟩
    · have hh : halfN q c r = q := by unfold halfN; rw [if_neg (by omega)]
      have C2 := Lib.hid c2; clear c2
      rw [hh] at M N
      clear hh
      go_enter Try.func6, Try.ntmps6
      go_wp2_with fail
      refine (M.out _).mono ?_; rintro e w1 ⟨rfl, hg⟩
      go_wp2_with fail
      refine (N.out _).mono ?_; rintro e w1 ⟨rfl, hg⟩
      go_wp2_with fail
      refine (known_any _).mono ?_; rintro e w1 ⟨rfl, hg⟩
      go_wp2
      go_ret
      exact ⟨rfl, (by repeat (first | exact Gr.refl _ | refine Gr.alloc ?_ _ | refine Gr.drew ?_ | refine Gr.setCell ?_ (by first | (simp; done) | (simp; omega) | omega) _ | refine Gr.trans ?_ (by assumption)))⟩
  · have c2' : (2 * r == c) = false := by simp [c2]
    have hh : halfN q c r = q := by unfold halfN; rw [if_neg (by omega)]
    rw [hh] at M N
    clear hh
    go_enter Try.func6, Try.ntmps6
    go_wp2_with fail
    refine (M.out _).mono ?_; rintro e w1 ⟨rfl, hg⟩
    go_wp2_with fail
    refine (N.out _).mono ?_; rintro e w1 ⟨rfl, hg⟩
    go_wp2_with fail
    refine (known_any _).mono ?_; rintro e w1 ⟨rfl, hg⟩
    go_wp2
    go_ret
    exact ⟨rfl, (by repeat (first | exact Gr.refl _ | refine Gr.alloc ?_ _ | refine Gr.drew ?_ | refine Gr.setCell ?_ (by first | (simp; done) | (simp; omega) | omega) _ | refine Gr.trans ?_ (by assumption)))⟩
end Go.Proofs.Ytafmbnpcdhpppaa
