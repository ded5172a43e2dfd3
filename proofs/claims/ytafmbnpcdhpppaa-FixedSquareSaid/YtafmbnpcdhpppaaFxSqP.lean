/- The contracts of Sqrt, of the program and of the reference. -/
import Derived.Test.YtafmbnpcdhpppaaFxSqM
import Derived.Outline
namespace Go.Proofs.Ytafmbnpcdhpppaa
open Go.RowKit

set_option maxRecDepth 100000 in
set_option maxHeartbeats 3200000 in
theorem sqrt_any (a : Vl) (w : World) :
    Calls Try.prog 25 #[.agg #[.bool a.ok, .int .i64 a.n]] w fun e w' => e = .returned (.agg #[.bool (sqrtV a).ok, .int .i64 (sqrtV a).n]) ∧ Gr w w' := by
  cases ha : knB a
  · have hv : sqrtV a = ⟨false, 0⟩ := by simp [sqrtV, ha]
    rw [hv]; clear hv
    go_enter Try.func25, Try.ntmps25
    go_wp2_with fail
    refine (kn_any a _).mono ?_; rintro e w1 ⟨rfl, hg⟩; obtain ⟨hc, hf⟩ := hg.cells; have hz := hg.size; (try simp at hz); have z0 : w.heap.size < w1.heap.size := (by omega); have z1 : w.heap.size + 1 < w1.heap.size := (by omega)
    go_wp2
    have q0 : w1.cell? ⟨w.heap.size + 1, 0, none⟩ = some (.bool false) := by go_simp
    have q1 : w1.cell? ⟨w.heap.size + 1, 1, none⟩ = some (.int .i64 0) := by go_simp
    exact bodyPost_ret (v := .agg #[.bool false, .int .i64 0]) (by simp [results, Try.results25, go_sem, *]) rfl ⟨rfl, (by repeat (first | exact Gr.refl _ | refine Gr.alloc ?_ _ | refine Gr.drew ?_ | refine Gr.setCell ?_ (by first | (simp; done) | (simp; omega) | omega) _ | refine Gr.trans ?_ (by assumption)))⟩
  by_cases h0 : a.n < 0
  · have hv : sqrtV a = ⟨false, 0⟩ := by
      have : ¬ 0 ≤ a.n := by omega
      simp [sqrtV, ha, this]
    rw [hv]; clear hv
    go_enter Try.func25, Try.ntmps25
    go_wp2_with fail
    refine (kn_any a _).mono ?_; rintro e w1 ⟨rfl, hg⟩; obtain ⟨hc, hf⟩ := hg.cells; have hz := hg.size; (try simp at hz); have z0 : w.heap.size < w1.heap.size := (by omega); have z1 : w.heap.size + 1 < w1.heap.size := (by omega)
    go_wp2
    have q0 : w1.cell? ⟨w.heap.size + 1, 0, none⟩ = some (.bool false) := by go_simp
    have q1 : w1.cell? ⟨w.heap.size + 1, 1, none⟩ = some (.int .i64 0) := by go_simp
    exact bodyPost_ret (v := .agg #[.bool false, .int .i64 0]) (by simp [results, Try.results25, go_sem, *]) rfl ⟨rfl, (by repeat (first | exact Gr.refl _ | refine Gr.alloc ?_ _ | refine Gr.drew ?_ | refine Gr.setCell ?_ (by first | (simp; done) | (simp; omega) | omega) _ | refine Gr.trans ?_ (by assumption)))⟩
  have h0' : 0 ≤ a.n := by omega
  have a2 := knB_hi ha
  obtain ⟨ok, m⟩ := a
  simp only at h0' a2 h0
  obtain ⟨N0, rfl⟩ : ∃ N0 : Nat, m = (N0 : Int) := ⟨m.toNat, by omega⟩
  have hv : sqrtV ⟨ok, (N0 : Int)⟩ = ofV (rtN (N0 * 1000000)) := by
    unfold sqrtV
    rw [ha, Int.toNat_natCast, decide_eq_true (Int.natCast_nonneg N0), Bool.and_self, cond_true]
  rw [hv]; clear hv
  obtain ⟨N, hN⟩ : ∃ N, N = N0 * 1000000 := ⟨_, rfl⟩
  have hN84 : N < 2 ^ 84 := by
    have : (2 : Nat) ^ 84 = 19342813113834066795298816 := by decide
    omega
  have M0' := mul64_any N0 1000000 (by omega) (by omega)
  rw [← hN] at M0' ⊢
  obtain ⟨H, hH⟩ : ∃ H, N / 18446744073709551616 = H := ⟨_, rfl⟩
  obtain ⟨L, hL⟩ : ∃ L, N % 18446744073709551616 = L := ⟨_, rfl⟩
  rw [hH, hL] at M0'
  have M := Lib.hid M0'
  have i1 : (H : Int) ≤ 18446744073709551615 := by omega
  have i2 : (L : Int) ≤ 18446744073709551615 := by omega
  have i3 : (N0 : Int) ≤ 4611686018427387904 := by omega
  have HN := Lib.hid hN84
  have HH := Lib.hid (And.intro hH hL)
  clear M0' hN hN84 a2 h0 h0' hH hL
  go_enter Try.func25, Try.ntmps25
  go_wp2_with fail
  refine (kn_any ⟨ok, (N0 : Int)⟩ _).mono ?_; rintro e w1 ⟨rfl, hg⟩; obtain ⟨hc, hf⟩ := hg.cells; have hz := hg.size; (try simp at hz); have z0 : w.heap.size < w1.heap.size := (by omega); have z1 : w.heap.size + 1 < w1.heap.size := (by omega)
  go_wp2_with fail
  refine (M.out _).mono ?_; rintro e w1' ⟨rfl, rfl⟩
  clear M
  go_wp2
  have q0 : w1.cell? ⟨w.heap.size + 1, 0, none⟩ = some (.bool false) := by go_simp
  have q1 : w1.cell? ⟨w.heap.size + 1, 1, none⟩ = some (.int .i64 0) := by go_simp
  have f0 : w1.frozen? ⟨w.heap.size + 1, 0, none⟩ = false := by go_simp
  have f1 : w1.frozen? ⟨w.heap.size + 1, 1, none⟩ = false := by go_simp
  have hgw : Gr w w1 := (by repeat (first | exact Gr.refl _ | refine Gr.alloc ?_ _ | refine Gr.drew ?_ | refine Gr.setCell ?_ (by first | (simp; done) | (simp; omega) | omega) _ | refine Gr.trans ?_ (by assumption)))
  clear hc hf hg
  go_loop [5, 6] (fun tn tb => ∃ k n b : Nat, tn = .int .u64 n ∧ tb = .int .u64 b ∧ Hid (b = 2 ^ k / 2) ∧ k ≤ 43 ∧ Hid (Rt N k n)) (fun _ tb => (intOf tb).toNat)
  case atStart => exact ⟨43, 0, 4398046511104, rfl, rfl, (show 4398046511104 = 2 ^ 43 / 2 by decide), Nat.le_refl _, Rt.start43 HN.out⟩
  case round =>
    obtain ⟨k, n, b, rfl, rfl, hb, hk, hrt⟩ := hrel
    rcases Nat.eq_zero_or_pos k with h0 | h0
    · subst h0
      obtain rfl : b = 0 := hb.out
      have hn := hrt.out.hlt
      have he := hrt.out.end_
      have i4 : (n : Int) ≤ 4398046511104 := by omega
      have O := Lib.hid (of_any (n : Int))
      have HE := Lib.hid he
      clear hrt hn he
      go_wp2_with fail
      refine (O.out _).mono ?_; rintro e w2 ⟨rfl, hg2⟩
      have x0 : w2.cell? ⟨w.heap.size + 1, 0, none⟩ = some (.bool false) := (hg2.cell (p := ⟨w.heap.size + 1, 0, none⟩) z1).trans q0
      have x1 : w2.cell? ⟨w.heap.size + 1, 1, none⟩ = some (.int .i64 0) := (hg2.cell (p := ⟨w.heap.size + 1, 1, none⟩) z1).trans q1
      have y0 : w2.frozen? ⟨w.heap.size + 1, 0, none⟩ = false := (hg2.frozen (p := ⟨w.heap.size + 1, 0, none⟩) z1).trans f0
      have y1 : w2.frozen? ⟨w.heap.size + 1, 1, none⟩ = false := (hg2.frozen (p := ⟨w.heap.size + 1, 1, none⟩) z1).trans f1
      go_wp2
      exact bodyPost_ret (v := .agg #[.bool (ofV (n : Int)).ok, .int .i64 (ofV (n : Int)).n]) (by simp [results, Try.results25, go_sem, *]) rfl ⟨by rw [← HE.out], (by repeat (first | exact hgw | refine Gr.setCell ?_ (by simp) _ | refine Gr.trans ?_ (by assumption)))⟩
    · obtain ⟨j, rfl⟩ : ∃ j, k = j + 1 := ⟨k - 1, by omega⟩
      have hbj : b = 2 ^ j := by rw [hb.out, Nat.pow_succ]; omega
      have hb1 : (1 : Int) ≤ (b : Int) := by have : 0 < 2 ^ j := Nat.pow_pos (by omega); omega
      obtain ⟨b', hb'⟩ : ∃ b', b' = 2 ^ j / 2 := ⟨_, rfl⟩
      have e0 : (b : Int) / 2 = (b' : Int) := by omega
      have hbl : b ≤ 4398046511104 := by
        rw [hbj]; exact Nat.le_trans (Nat.pow_le_pow_right (by omega) (show j ≤ 42 by omega)) (by decide)
      have eO : bits .or .u64 (n : Int) (b : Int) = ((n + b : Nat) : Int) := by
        have := or_pow (k := j) hrt.out.hd (by have := hrt.out.hlt; rw [← hbj]; omega)
        rw [← hbj] at this; exact this
      obtain ⟨x, hx⟩ : ∃ x, x = n + b := ⟨_, rfl⟩
      rw [← hx] at eO
      have hxl : x ≤ 8796093022208 := by have := hrt.out.hlt; omega
      have M2' := mul64_any x x (by omega) (by omega)
      have hD := dbl_le (X := x * x) HH.out.1 HH.out.2
      have hXX : x * x ≤ 8796093022208 * 8796093022208 := Nat.mul_le_mul hxl hxl
      obtain ⟨h2, hh2⟩ : ∃ h2, x * x / 18446744073709551616 = h2 := ⟨_, rfl⟩
      obtain ⟨l2, hl2⟩ : ∃ l2, x * x % 18446744073709551616 = l2 := ⟨_, rfl⟩
      rw [hh2, hl2] at M2' hD
      have M2 := Lib.hid M2'
      have i5 : (h2 : Int) ≤ 18446744073709551615 := by omega
      have i6 : (l2 : Int) ≤ 18446744073709551615 := by omega
      have HD := Lib.hid hD
      have HX := Lib.hid (show x = n + 2 ^ j by omega)
      clear M2' hD hXX hh2 hl2 hxl hbl hx
      have Hb' := Lib.hid hb'
      clear hb hbj hb' h0
      by_cases c1 : (h2 : Int) < (H : Int)
      · have hy : (n + 2 ^ j) * (n + 2 ^ j) ≤ N := by rw [← HX.out]; exact HD.out.2 (Or.inl (by omega))
        have RT := Lib.hid (hrt.out.yes (by
          have h1 : 2 ^ j * 2 ^ j ≤ (n + 2 ^ j) * (n + 2 ^ j) := Nat.mul_le_mul (by omega) (by omega)
          rcases Nat.lt_or_ge j 42 with hj | hj
          · exact hj
          · have h3 : 2 ^ 84 ≤ 2 ^ j * 2 ^ j := by rw [← Nat.pow_add]; exact Nat.pow_le_pow_right (by omega) (by omega)
            have := HN.out; omega) hy)
        rw [← HX.out] at RT
        clear hy
        go_wp2_with fail
        refine (M2.out _).mono ?_; rintro e w1' ⟨rfl, rfl⟩
        go_wp2
        go_round
        case rel => exact ⟨j, x, b', rfl, rfl, Hb'.out, by omega, RT.out⟩
        case measure => simp [intOf]; omega
      by_cases c2 : h2 = H
      · by_cases c3 : (l2 : Int) ≤ (L : Int)
        · have hy : (n + 2 ^ j) * (n + 2 ^ j) ≤ N := by rw [← HX.out]; exact HD.out.2 (Or.inr ⟨c2, by omega⟩)
          have RT := Lib.hid (hrt.out.yes (by
            have h1 : 2 ^ j * 2 ^ j ≤ (n + 2 ^ j) * (n + 2 ^ j) := Nat.mul_le_mul (by omega) (by omega)
            rcases Nat.lt_or_ge j 42 with hj | hj
            · exact hj
            · have h3 : 2 ^ 84 ≤ 2 ^ j * 2 ^ j := by rw [← Nat.pow_add]; exact Nat.pow_le_pow_right (by omega) (by omega)
              have := HN.out; omega) hy)
          rw [← HX.out] at RT
          clear hy
          have c2' : ((h2 : Int) == (H : Int)) = true := by simp [c2]
          have c2n : (h2 == H) = true := by simp [c2]
          clear c2
          go_wp2_with fail
          refine (M2.out _).mono ?_; rintro e w1' ⟨rfl, rfl⟩
          go_wp2
          go_round
          case rel => exact ⟨j, x, b', rfl, rfl, Hb'.out, by omega, RT.out⟩
          case measure => simp [intOf]; omega
        · have hy : ¬ (n + 2 ^ j) * (n + 2 ^ j) ≤ N := by rw [← HX.out]; intro h; have := HD.out.1 h; omega
          have RT := Lib.hid (hrt.out.no hy)
          clear hy
          have c2' : ((h2 : Int) == (H : Int)) = true := by simp [c2]
          have c2n : (h2 == H) = true := by simp [c2]
          clear c2
          go_wp2_with fail
          refine (M2.out _).mono ?_; rintro e w1' ⟨rfl, rfl⟩
          go_wp2
          go_round
          case rel => exact ⟨j, n, b', rfl, rfl, Hb'.out, by omega, RT.out⟩
          case measure => simp [intOf]; omega
      · have hy : ¬ (n + 2 ^ j) * (n + 2 ^ j) ≤ N := by rw [← HX.out]; intro h; have := HD.out.1 h; omega
        have RT := Lib.hid (hrt.out.no hy)
        clear hy
        have c2' : ((h2 : Int) == (H : Int)) = false := by simp; omega
        have c2n : (h2 == H) = false := by simp [c2]
        clear c2
        go_wp2_with fail
        refine (M2.out _).mono ?_; rintro e w1' ⟨rfl, rfl⟩
        go_wp2
        go_round
        case rel => exact ⟨j, n, b', rfl, rfl, Hb'.out, by omega, RT.out⟩
        case measure => simp [intOf]; omega
end Go.Proofs.Ytafmbnpcdhpppaa
