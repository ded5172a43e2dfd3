/- Contracts of chapter 1's small functions, of the program's package fixed and of the reference: each walked once. -/
import Derived.Test.YtoikpkgogncdhaaProg
import Derived.Test.YtoikpkgogncdhaaFxBase
import Derived.Deep.RegionHeld3
namespace Go.Proofs.Ytoikpkgogncdhaa
open Go.RowKit

set_option maxHeartbeats 400000 in
theorem is_any (ok : Bool) (n : Int) (w : World) :
    Calls Try.prog 44 #[.agg #[.bool ok, .int .i64 n]] w fun e w' => e = .returned (.bool (isB ⟨ok, n⟩)) ∧ Gr w w' := by
  cases ok <;>
  · go_enter Try.func44, Try.ntmps44
    go_wp2
    all_goals (go_ret; exact ⟨by simp [isB, *] <;> omega, (by repeat (first | exact Gr.refl _ | refine Gr.alloc ?_ _ | refine Gr.drew ?_ | refine Gr.setCell ?_ (by first | (simp; done) | (simp; omega) | omega) _ | refine Gr.trans ?_ (by assumption)))⟩)
set_option maxHeartbeats 400000 in
theorem ris_any (ok : Bool) (n : Int) (w : World) :
    Calls Try.prog 37 #[.agg #[.bool ok, .int .i64 n]] w fun e w' => e = .returned (.bool (isB ⟨ok, n⟩)) ∧ Gr w w' := by
  cases ok <;>
  · go_enter Try.func37, Try.ntmps37
    go_wp2
    all_goals (go_ret; exact ⟨by simp [isB, *] <;> omega, (by repeat (first | exact Gr.refl _ | refine Gr.alloc ?_ _ | refine Gr.drew ?_ | refine Gr.setCell ?_ (by first | (simp; done) | (simp; omega) | omega) _ | refine Gr.trans ?_ (by assumption)))⟩)

set_option maxHeartbeats 400000 in
theorem of_any (n : Int) (w : World) :
    Calls Try.prog 68 #[.int .i64 n] w fun e w' => e = .returned (.agg #[.bool (ofV n).ok, .int .i64 (ofV n).n]) ∧ Gr w w' := by
  go_enter Try.func68, Try.ntmps68
  go_wp2_with (go_at_call 44; refine (is_any true n _).mono ?_; rintro e w1 ⟨rfl, hg⟩; obtain ⟨hc, hf⟩ := hg.cells; have hz := hg.size)
  all_goals
    have q0 : w1.cell? ⟨w.heap.size, 0, none⟩ = some (.bool false) := by go_simp
    have q1 : w1.cell? ⟨w.heap.size, 1, none⟩ = some (.int .i64 0) := by go_simp
    exact bodyPost_ret (v := .agg #[.bool (ofV n).ok, .int .i64 (ofV n).n]) (by simp [results, Try.results68, go_sem, ofV, *]) rfl ⟨rfl, (by repeat (first | exact Gr.refl _ | refine Gr.alloc ?_ _ | refine Gr.drew ?_ | refine Gr.setCell ?_ (by first | (simp; done) | (simp; omega) | omega) _ | refine Gr.trans ?_ (by assumption)))⟩
set_option maxHeartbeats 400000 in
theorem rof_any (n : Int) (w : World) :
    Calls Try.prog 59 #[.int .i64 n] w fun e w' => e = .returned (.agg #[.bool (ofV n).ok, .int .i64 (ofV n).n]) ∧ Gr w w' := by
  by_cases h1 : n < -4611686018427387904
  · have hv := ofV_lo h1
    rw [hv]; clear hv
    go_enter Try.func59, Try.ntmps59
    go_wp2
    exact bodyPost_ret (v := .agg #[.bool false, .int .i64 0]) (by simp [results, Try.results59, go_sem]) rfl ⟨rfl, (by repeat (first | exact Gr.refl _ | refine Gr.alloc ?_ _ | refine Gr.drew ?_ | refine Gr.setCell ?_ (by first | (simp; done) | (simp; omega) | omega) _ | refine Gr.trans ?_ (by assumption)))⟩
  · by_cases h2 : 4611686018427387904 < n
    · have hv := ofV_hi h2
      rw [hv]; clear hv
      go_enter Try.func59, Try.ntmps59
      go_wp2
      exact bodyPost_ret (v := .agg #[.bool false, .int .i64 0]) (by simp [results, Try.results59, go_sem]) rfl ⟨rfl, (by repeat (first | exact Gr.refl _ | refine Gr.alloc ?_ _ | refine Gr.drew ?_ | refine Gr.setCell ?_ (by first | (simp; done) | (simp; omega) | omega) _ | refine Gr.trans ?_ (by assumption)))⟩
    · have hv := ofV_in (n := n) (by omega) (by omega)
      rw [hv]; clear hv
      go_enter Try.func59, Try.ntmps59
      go_wp2
      exact bodyPost_ret (v := .agg #[.bool true, .int .i64 n]) (by simp [results, Try.results59, go_sem]) rfl ⟨rfl, (by repeat (first | exact Gr.refl _ | refine Gr.alloc ?_ _ | refine Gr.drew ?_ | refine Gr.setCell ?_ (by first | (simp; done) | (simp; omega) | omega) _ | refine Gr.trans ?_ (by assumption)))⟩
set_option maxHeartbeats 400000 in
theorem int_any (n : Int) (w : World) :
    Calls Try.prog 55 #[.int .i64 n] w fun e w' => e = .returned (.agg #[.bool (intV n).ok, .int .i64 (intV n).n]) ∧ Gr w w' := by
  by_cases h1 : n < -4611686018427
  · have hv : intV n = ⟨false, 0⟩ := by
      have : ¬ -4611686018427 ≤ n := by omega
      simp [intV, this]
    rw [hv]; clear hv
    go_enter Try.func55, Try.ntmps55
    go_wp2
    exact bodyPost_ret (v := .agg #[.bool false, .int .i64 0]) (by simp [results, Try.results55, go_sem]) rfl ⟨rfl, (by repeat (first | exact Gr.refl _ | refine Gr.alloc ?_ _ | refine Gr.drew ?_ | refine Gr.setCell ?_ (by first | (simp; done) | (simp; omega) | omega) _ | refine Gr.trans ?_ (by assumption)))⟩
  · by_cases h2 : 4611686018427 < n
    · have hv : intV n = ⟨false, 0⟩ := by
        have : ¬ n ≤ 4611686018427 := by omega
        simp [intV, this]
      rw [hv]; clear hv
      go_enter Try.func55, Try.ntmps55
      go_wp2
      exact bodyPost_ret (v := .agg #[.bool false, .int .i64 0]) (by simp [results, Try.results55, go_sem]) rfl ⟨rfl, (by repeat (first | exact Gr.refl _ | refine Gr.alloc ?_ _ | refine Gr.drew ?_ | refine Gr.setCell ?_ (by first | (simp; done) | (simp; omega) | omega) _ | refine Gr.trans ?_ (by assumption)))⟩
    · have hv : intV n = ofV (n * 1000000) := by
        have a1 : -4611686018427 ≤ n := by omega
        have a2 : n ≤ 4611686018427 := by omega
        simp [intV, a1, a2]
      rw [hv]; clear hv
      go_enter Try.func55, Try.ntmps55
      go_wp2_with (go_at_call 68; refine (of_any (n * 1000000) _).mono ?_; rintro e w1 ⟨rfl, hg⟩; obtain ⟨hc, hf⟩ := hg.cells; have hz := hg.size)
      have q0 : w1.cell? ⟨w.heap.size, 0, none⟩ = some (.bool false) := by go_simp
      have q1 : w1.cell? ⟨w.heap.size, 1, none⟩ = some (.int .i64 0) := by go_simp
      exact bodyPost_ret (v := .agg #[.bool (ofV (n * 1000000)).ok, .int .i64 (ofV (n * 1000000)).n]) (by simp [results, Try.results55, go_sem, *]) rfl ⟨rfl, (by repeat (first | exact Gr.refl _ | refine Gr.alloc ?_ _ | refine Gr.drew ?_ | refine Gr.setCell ?_ (by first | (simp; done) | (simp; omega) | omega) _ | refine Gr.trans ?_ (by assumption)))⟩
set_option maxHeartbeats 400000 in
theorem rint_any (n : Int) (w : World) :
    Calls Try.prog 41 #[.int .i64 n] w fun e w' => e = .returned (.agg #[.bool (intV n).ok, .int .i64 (intV n).n]) ∧ Gr w w' := by
  by_cases h1 : n < -4611686018427
  · have hv : intV n = ⟨false, 0⟩ := by
      have : ¬ -4611686018427 ≤ n := by omega
      simp [intV, this]
    rw [hv]; clear hv
    go_enter Try.func41, Try.ntmps41
    go_wp2
    exact bodyPost_ret (v := .agg #[.bool false, .int .i64 0]) (by simp [results, Try.results41, go_sem]) rfl ⟨rfl, (by repeat (first | exact Gr.refl _ | refine Gr.alloc ?_ _ | refine Gr.drew ?_ | refine Gr.setCell ?_ (by first | (simp; done) | (simp; omega) | omega) _ | refine Gr.trans ?_ (by assumption)))⟩
  · by_cases h2 : 4611686018427 < n
    · have hv : intV n = ⟨false, 0⟩ := by
        have : ¬ n ≤ 4611686018427 := by omega
        simp [intV, this]
      rw [hv]; clear hv
      go_enter Try.func41, Try.ntmps41
      go_wp2
      exact bodyPost_ret (v := .agg #[.bool false, .int .i64 0]) (by simp [results, Try.results41, go_sem]) rfl ⟨rfl, (by repeat (first | exact Gr.refl _ | refine Gr.alloc ?_ _ | refine Gr.drew ?_ | refine Gr.setCell ?_ (by first | (simp; done) | (simp; omega) | omega) _ | refine Gr.trans ?_ (by assumption)))⟩
    · have hv : intV n = ofV (n * 1000000) := by
        have a1 : -4611686018427 ≤ n := by omega
        have a2 : n ≤ 4611686018427 := by omega
        simp [intV, a1, a2]
      rw [hv]; clear hv
      go_enter Try.func41, Try.ntmps41
      go_wp2_with (go_at_call 59; refine (rof_any (n * 1000000) _).mono ?_; rintro e w1 ⟨rfl, hg⟩; obtain ⟨hc, hf⟩ := hg.cells; have hz := hg.size)
      have q0 : w1.cell? ⟨w.heap.size, 0, none⟩ = some (.bool false) := by go_simp
      have q1 : w1.cell? ⟨w.heap.size, 1, none⟩ = some (.int .i64 0) := by go_simp
      exact bodyPost_ret (v := .agg #[.bool (ofV (n * 1000000)).ok, .int .i64 (ofV (n * 1000000)).n]) (by simp [results, Try.results41, go_sem, *]) rfl ⟨rfl, (by repeat (first | exact Gr.refl _ | refine Gr.alloc ?_ _ | refine Gr.drew ?_ | refine Gr.setCell ?_ (by first | (simp; done) | (simp; omega) | omega) _ | refine Gr.trans ?_ (by assumption)))⟩
set_option maxHeartbeats 400000 in
theorem kn_any (a : Vl) (w : World) :
    Calls Try.prog 70 #[.agg #[.bool a.ok, .int .i64 a.n]] w fun e w' => e = .returned (.bool (knB a)) ∧ Gr w w' := by
  obtain ⟨ok, n⟩ := a
  cases ok
  · go_enter Try.func70, Try.ntmps70
    go_wp2
    go_ret
    exact ⟨by simp [knB], (by repeat (first | exact Gr.refl _ | refine Gr.alloc ?_ _ | refine Gr.drew ?_ | refine Gr.setCell ?_ (by first | (simp; done) | (simp; omega) | omega) _ | refine Gr.trans ?_ (by assumption)))⟩
  · go_enter Try.func70, Try.ntmps70
    go_wp2_with (go_at_call 44; refine (is_any _ _ _).mono ?_; rintro e w1 ⟨rfl, hg⟩; obtain ⟨hc, hf⟩ := hg.cells; have hz := hg.size)
    go_ret
    exact ⟨by simp [knB], (by repeat (first | exact Gr.refl _ | refine Gr.alloc ?_ _ | refine Gr.drew ?_ | refine Gr.setCell ?_ (by first | (simp; done) | (simp; omega) | omega) _ | refine Gr.trans ?_ (by assumption)))⟩
set_option maxHeartbeats 400000 in
theorem rkn_any (a : Vl) (w : World) :
    Calls Try.prog 58 #[.agg #[.bool a.ok, .int .i64 a.n]] w fun e w' => e = .returned (.bool (knB a)) ∧ Gr w w' := by
  obtain ⟨ok, n⟩ := a
  cases ok
  · go_enter Try.func58, Try.ntmps58
    go_wp2
    go_ret
    exact ⟨by simp [knB], (by repeat (first | exact Gr.refl _ | refine Gr.alloc ?_ _ | refine Gr.drew ?_ | refine Gr.setCell ?_ (by first | (simp; done) | (simp; omega) | omega) _ | refine Gr.trans ?_ (by assumption)))⟩
  · go_enter Try.func58, Try.ntmps58
    go_wp2_with (go_at_call 37; refine (ris_any _ _ _).mono ?_; rintro e w1 ⟨rfl, hg⟩; obtain ⟨hc, hf⟩ := hg.cells; have hz := hg.size)
    go_ret
    exact ⟨by simp [knB], (by repeat (first | exact Gr.refl _ | refine Gr.alloc ?_ _ | refine Gr.drew ?_ | refine Gr.setCell ?_ (by first | (simp; done) | (simp; omega) | omega) _ | refine Gr.trans ?_ (by assumption)))⟩
set_option maxHeartbeats 400000 in
theorem two_any (a b : Vl) (w : World) :
    Calls Try.prog 61 #[.agg #[.bool a.ok, .int .i64 a.n], .agg #[.bool b.ok, .int .i64 b.n]] w fun e w' => e = .returned (.bool (knB a && knB b)) ∧ Gr w w' := by
  cases ha : knB a
  · go_enter Try.func61, Try.ntmps61
    go_wp2_with (go_at_call 58; refine (rkn_any a _).mono ?_; rintro e w1 ⟨rfl, hg⟩; obtain ⟨hc, hf⟩ := hg.cells; have hz := hg.size)
    go_ret
    exact ⟨by simp, (by repeat (first | exact Gr.refl _ | refine Gr.alloc ?_ _ | refine Gr.drew ?_ | refine Gr.setCell ?_ (by first | (simp; done) | (simp; omega) | omega) _ | refine Gr.trans ?_ (by assumption)))⟩
  · go_enter Try.func61, Try.ntmps61
    go_wp2_with fail
    refine (rkn_any a _).mono ?_; rintro e w1 ⟨rfl, hg⟩; obtain ⟨hc, hf⟩ := hg.cells; have hz := hg.size
    go_wp2_with (go_at_call 58; refine (rkn_any b _).mono ?_; rintro e w1 ⟨rfl, hg⟩; obtain ⟨hc, hf⟩ := hg.cells; have hz := hg.size)
    go_ret
    exact ⟨by simp, (by repeat (first | exact Gr.refl _ | refine Gr.alloc ?_ _ | refine Gr.drew ?_ | refine Gr.setCell ?_ (by first | (simp; done) | (simp; omega) | omega) _ | refine Gr.trans ?_ (by assumption)))⟩
end Go.Proofs.Ytoikpkgogncdhaa
