/- Contracts of Mul and Div, of the program and of the reference. -/
import Derived.Test.YtbdichmkgcngbaaGreatRunFxTwo
import Derived.Test.YtbdichmkgcngbaaGreatRunFxTimes
namespace Go.Proofs.YtbdichmkgcngbaaGreat
open Go.RowKit

def mdV (a b c : Int) : Vl := bif mdOk a b c then ofV (mdN a b c) else ⟨false, 0⟩
def mulV (a b : Vl) : Vl := bif knB a && knB b then mdV a.n b.n 1000000 else ⟨false, 0⟩
def divV (a b : Vl) : Vl := bif knB a && knB b then mdV a.n 1000000 b.n else ⟨false, 0⟩

theorem muldiv_at (a b c : Int) (ha1 : -9223372036854775808 ≤ a) (ha2 : a ≤ 9223372036854775807) (hb1 : -9223372036854775808 ≤ b) (hb2 : b ≤ 9223372036854775807) (hc1 : -9223372036854775808 ≤ c) (hc2 : c ≤ 9223372036854775807) (w : World) :
  Calls Tryz.prog 136 #[.int .i64 a, .int .i64 b, .int .i64 c] w fun e w' => e = .returned (.tuple #[.int .i64 (mdN a b c), .bool (mdOk a b c)]) ∧ Gr w w' :=
 (muldiv_any a b c ha1 ha2 hb1 hb2 hc1 hc2 w).mono fun _ _ h => h
theorem rmuldiv_at (a b c : Int) (ha1 : -9223372036854775808 ≤ a) (ha2 : a ≤ 9223372036854775807) (hb1 : -9223372036854775808 ≤ b) (hb2 : b ≤ 9223372036854775807) (hc1 : -9223372036854775808 ≤ c) (hc2 : c ≤ 9223372036854775807) (w : World) :
  Calls Tryz.prog 98 #[.int .i64 a, .int .i64 b, .int .i64 c] w fun e w' => e = .returned (.tuple #[.int .i64 (mdN a b c), .bool (mdOk a b c)]) ∧ Gr w w' :=
 (rmuldiv_any a b c ha1 ha2 hb1 hb2 hc1 hc2 w).mono fun _ _ ⟨he, hw⟩ => ⟨he, hw ▸ Gr.refl _⟩

set_option maxHeartbeats 400000 in
theorem val_any (n : Int) (ok : Bool) (w : World) :
  Calls Tryz.prog 135 #[.int .i64 n, .bool ok] w fun e w' => e = .returned (.agg #[.bool (bif ok then ofV n else ⟨false, 0⟩).ok, .int .i64 (bif ok then ofV n else ⟨false, 0⟩).n]) ∧ Gr w w' := by
 cases ok
 ·
  rw [cond_false]
  go_enter Tryz.func135, Tryz.ntmps135
  go_wp2
  exact bodyPost_ret (v := .agg #[.bool false, .int .i64 0]) (by simp [results, Tryz.results135, go_sem]) rfl ⟨rfl, (by repeat (first | exact Gr.refl _ | refine Gr.alloc ?_ _ | refine Gr.drew ?_ | refine Gr.setCell ?_ (by first | (simp; done) | (simp; omega) | omega) _ | refine Gr.trans ?_ (by assumption)))⟩
 ·
  rw [cond_true]
  go_enter Tryz.func135, Tryz.ntmps135
  go_wp2_with fail
  refine (of_any n _).mono ?_; rintro e w1 ⟨rfl, hg⟩; obtain ⟨hc, hf⟩ := hg.cells; have hz := hg.size; (try simp at hz); have z0 : w.heap.size < w1.heap.size := (by omega)
  go_wp2
  have q0 : w1.cell? ⟨w.heap.size, 0, none⟩ = some (.bool false) := by go_simp
  have q1 : w1.cell? ⟨w.heap.size, 1, none⟩ = some (.int .i64 0) := by go_simp
  exact bodyPost_ret (v := .agg #[.bool (ofV n).ok, .int .i64 (ofV n).n]) (by simp [results, Tryz.results135, go_sem, *]) rfl ⟨rfl, (by repeat (first | exact Gr.refl _ | refine Gr.alloc ?_ _ | refine Gr.drew ?_ | refine Gr.setCell ?_ (by first | (simp; done) | (simp; omega) | omega) _ | refine Gr.trans ?_ (by assumption)))⟩
set_option maxHeartbeats 800000 in
theorem mul_any (a b : Vl) (w : World) :
  Calls Tryz.prog 117 #[.agg #[.bool a.ok, .int .i64 a.n], .agg #[.bool b.ok, .int .i64 b.n]] w fun e w' => e = .returned (.agg #[.bool (mulV a b).ok, .int .i64 (mulV a b).n]) ∧ Gr w w' := by
 cases ha : knB a
 ·
  have hv : mulV a b = ⟨false, 0⟩ := by simp [mulV, ha]
  rw [hv]; clear hv
  go_enter Tryz.func117, Tryz.ntmps117
  go_wp2_with fail
  refine (kn_any a _).mono ?_; rintro e w1 ⟨rfl, hg⟩; obtain ⟨hc, hf⟩ := hg.cells; have hz := hg.size; (try simp at hz); have z0 : w.heap.size < w1.heap.size := (by omega); have z1 : w.heap.size + 1 < w1.heap.size := (by omega); have z2 : w.heap.size + 1 + 1 < w1.heap.size := (by omega)
  go_wp2
  have q0 : w1.cell? ⟨w.heap.size + 1 + 1, 0, none⟩ = some (.bool false) := by go_simp
  have q1 : w1.cell? ⟨w.heap.size + 1 + 1, 1, none⟩ = some (.int .i64 0) := by go_simp
  exact bodyPost_ret (v := .agg #[.bool false, .int .i64 0]) (by simp [results, Tryz.results117, go_sem, *]) rfl ⟨rfl, (by repeat (first | exact Gr.refl _ | refine Gr.alloc ?_ _ | refine Gr.drew ?_ | refine Gr.setCell ?_ (by first | (simp; done) | (simp; omega) | omega) _ | refine Gr.trans ?_ (by assumption)))⟩
 cases hb : knB b
 ·
  have hv : mulV a b = ⟨false, 0⟩ := by simp [mulV, hb]
  rw [hv]; clear hv
  go_enter Tryz.func117, Tryz.ntmps117
  go_wp2_with fail
  refine (kn_any a _).mono ?_; rintro e w1 ⟨rfl, hg⟩; obtain ⟨hc, hf⟩ := hg.cells; have hz := hg.size; (try simp at hz); have z0 : w.heap.size < w1.heap.size := (by omega); have z1 : w.heap.size + 1 < w1.heap.size := (by omega); have z2 : w.heap.size + 1 + 1 < w1.heap.size := (by omega)
  go_wp2_with fail
  refine (kn_any b _).mono ?_; rintro e w1 ⟨rfl, hg⟩; obtain ⟨hc, hf⟩ := hg.cells; have hz := hg.size; (try simp at hz); have z0 : w.heap.size < w1.heap.size := (by omega); have z1 : w.heap.size + 1 < w1.heap.size := (by omega); have z2 : w.heap.size + 1 + 1 < w1.heap.size := (by omega)
  go_wp2
  have q0 : w1.cell? ⟨w.heap.size + 1 + 1, 0, none⟩ = some (.bool false) := by go_simp
  have q1 : w1.cell? ⟨w.heap.size + 1 + 1, 1, none⟩ = some (.int .i64 0) := by go_simp
  exact bodyPost_ret (v := .agg #[.bool false, .int .i64 0]) (by simp [results, Tryz.results117, go_sem, *]) rfl ⟨rfl, (by repeat (first | exact Gr.refl _ | refine Gr.alloc ?_ _ | refine Gr.drew ?_ | refine Gr.setCell ?_ (by first | (simp; done) | (simp; omega) | omega) _ | refine Gr.trans ?_ (by assumption)))⟩
 have hv : mulV a b = mdV a.n b.n 1000000 := by simp [mulV, ha, hb]
 rw [hv]; clear hv
 have a1 := knB_lo ha
 have a2 := knB_hi ha
 have b1 := knB_lo hb
 have b2 := knB_hi hb
 have M := Lib.hid (muldiv_at a.n b.n 1000000 (by omega) (by omega) (by omega) (by omega) (by omega) (by omega))
 go_enter Tryz.func117, Tryz.ntmps117
 go_wp2_with fail
 refine (kn_any a _).mono ?_; rintro e w1 ⟨rfl, hg⟩; obtain ⟨hc, hf⟩ := hg.cells; have hz := hg.size; (try simp at hz); have z0 : w.heap.size < w1.heap.size := (by omega); have z1 : w.heap.size + 1 < w1.heap.size := (by omega); have z2 : w.heap.size + 1 + 1 < w1.heap.size := (by omega)
 go_wp2_with fail
 refine (kn_any b _).mono ?_; rintro e w1 ⟨rfl, hg⟩; obtain ⟨hc, hf⟩ := hg.cells; have hz := hg.size; (try simp at hz); have z0 : w.heap.size < w1.heap.size := (by omega); have z1 : w.heap.size + 1 < w1.heap.size := (by omega); have z2 : w.heap.size + 1 + 1 < w1.heap.size := (by omega)
 go_wp2_with fail
 refine (M.out _).mono ?_; rintro e w1 ⟨rfl, hg⟩; obtain ⟨hc, hf⟩ := hg.cells; have hz := hg.size; (try simp at hz); have z0 : w.heap.size < w1.heap.size := (by omega); have z1 : w.heap.size + 1 < w1.heap.size := (by omega); have z2 : w.heap.size + 1 + 1 < w1.heap.size := (by omega)
 go_wp2_with fail
 refine (val_any (mdN a.n b.n 1000000) (mdOk a.n b.n 1000000) _).mono ?_; rintro e w1 ⟨rfl, hg⟩; obtain ⟨hc, hf⟩ := hg.cells; have hz := hg.size; (try simp at hz); have z0 : w.heap.size < w1.heap.size := (by omega); have z1 : w.heap.size + 1 < w1.heap.size := (by omega); have z2 : w.heap.size + 1 + 1 < w1.heap.size := (by omega)
 go_wp2
 have q0 : w1.cell? ⟨w.heap.size + 1 + 1, 0, none⟩ = some (.bool false) := by go_simp
 have q1 : w1.cell? ⟨w.heap.size + 1 + 1, 1, none⟩ = some (.int .i64 0) := by go_simp
 exact bodyPost_ret (v := .agg #[.bool (mdV a.n b.n 1000000).ok, .int .i64 (mdV a.n b.n 1000000).n]) (by simp [results, Tryz.results117, go_sem, mdV, *]) rfl ⟨rfl, (by repeat (first | exact Gr.refl _ | refine Gr.alloc ?_ _ | refine Gr.drew ?_ | refine Gr.setCell ?_ (by first | (simp; done) | (simp; omega) | omega) _ | refine Gr.trans ?_ (by assumption)))⟩
set_option maxHeartbeats 800000 in
theorem div_any (a b : Vl) (w : World) :
  Calls Tryz.prog 120 #[.agg #[.bool a.ok, .int .i64 a.n], .agg #[.bool b.ok, .int .i64 b.n]] w fun e w' => e = .returned (.agg #[.bool (divV a b).ok, .int .i64 (divV a b).n]) ∧ Gr w w' := by
 cases ha : knB a
 ·
  have hv : divV a b = ⟨false, 0⟩ := by simp [divV, ha]
  rw [hv]; clear hv
  go_enter Tryz.func120, Tryz.ntmps120
  go_wp2_with fail
  refine (kn_any a _).mono ?_; rintro e w1 ⟨rfl, hg⟩; obtain ⟨hc, hf⟩ := hg.cells; have hz := hg.size; (try simp at hz); have z0 : w.heap.size < w1.heap.size := (by omega); have z1 : w.heap.size + 1 < w1.heap.size := (by omega); have z2 : w.heap.size + 1 + 1 < w1.heap.size := (by omega)
  go_wp2
  have q0 : w1.cell? ⟨w.heap.size + 1 + 1, 0, none⟩ = some (.bool false) := by go_simp
  have q1 : w1.cell? ⟨w.heap.size + 1 + 1, 1, none⟩ = some (.int .i64 0) := by go_simp
  exact bodyPost_ret (v := .agg #[.bool false, .int .i64 0]) (by simp [results, Tryz.results120, go_sem, *]) rfl ⟨rfl, (by repeat (first | exact Gr.refl _ | refine Gr.alloc ?_ _ | refine Gr.drew ?_ | refine Gr.setCell ?_ (by first | (simp; done) | (simp; omega) | omega) _ | refine Gr.trans ?_ (by assumption)))⟩
 cases hb : knB b
 ·
  have hv : divV a b = ⟨false, 0⟩ := by simp [divV, hb]
  rw [hv]; clear hv
  go_enter Tryz.func120, Tryz.ntmps120
  go_wp2_with fail
  refine (kn_any a _).mono ?_; rintro e w1 ⟨rfl, hg⟩; obtain ⟨hc, hf⟩ := hg.cells; have hz := hg.size; (try simp at hz); have z0 : w.heap.size < w1.heap.size := (by omega); have z1 : w.heap.size + 1 < w1.heap.size := (by omega); have z2 : w.heap.size + 1 + 1 < w1.heap.size := (by omega)
  go_wp2_with fail
  refine (kn_any b _).mono ?_; rintro e w1 ⟨rfl, hg⟩; obtain ⟨hc, hf⟩ := hg.cells; have hz := hg.size; (try simp at hz); have z0 : w.heap.size < w1.heap.size := (by omega); have z1 : w.heap.size + 1 < w1.heap.size := (by omega); have z2 : w.heap.size + 1 + 1 < w1.heap.size := (by omega)
  go_wp2
  have q0 : w1.cell? ⟨w.heap.size + 1 + 1, 0, none⟩ = some (.bool false) := by go_simp
  have q1 : w1.cell? ⟨w.heap.size + 1 + 1, 1, none⟩ = some (.int .i64 0) := by go_simp
  exact bodyPost_ret (v := .agg #[.bool false, .int .i64 0]) (by simp [results, Tryz.results120, go_sem, *]) rfl ⟨rfl, (by repeat (first | exact Gr.refl _ | refine Gr.alloc ?_ _ | refine Gr.drew ?_ | refine Gr.setCell ?_ (by first | (simp; done) | (simp; omega) | omega) _ | refine Gr.trans ?_ (by assumption)))⟩
 have hv : divV a b = mdV a.n 1000000 b.n := by simp [divV, ha, hb]
 rw [hv]; clear hv
 have a1 := knB_lo ha
 have a2 := knB_hi ha
 have b1 := knB_lo hb
 have b2 := knB_hi hb
 have M := Lib.hid (muldiv_at a.n 1000000 b.n (by omega) (by omega) (by omega) (by omega) (by omega) (by omega))
 go_enter Tryz.func120, Tryz.ntmps120
 go_wp2_with fail
 refine (kn_any a _).mono ?_; rintro e w1 ⟨rfl, hg⟩; obtain ⟨hc, hf⟩ := hg.cells; have hz := hg.size; (try simp at hz); have z0 : w.heap.size < w1.heap.size := (by omega); have z1 : w.heap.size + 1 < w1.heap.size := (by omega); have z2 : w.heap.size + 1 + 1 < w1.heap.size := (by omega)
 go_wp2_with fail
 refine (kn_any b _).mono ?_; rintro e w1 ⟨rfl, hg⟩; obtain ⟨hc, hf⟩ := hg.cells; have hz := hg.size; (try simp at hz); have z0 : w.heap.size < w1.heap.size := (by omega); have z1 : w.heap.size + 1 < w1.heap.size := (by omega); have z2 : w.heap.size + 1 + 1 < w1.heap.size := (by omega)
 go_wp2_with fail
 refine (M.out _).mono ?_; rintro e w1 ⟨rfl, hg⟩; obtain ⟨hc, hf⟩ := hg.cells; have hz := hg.size; (try simp at hz); have z0 : w.heap.size < w1.heap.size := (by omega); have z1 : w.heap.size + 1 < w1.heap.size := (by omega); have z2 : w.heap.size + 1 + 1 < w1.heap.size := (by omega)
 go_wp2_with fail
 refine (val_any (mdN a.n 1000000 b.n) (mdOk a.n 1000000 b.n) _).mono ?_; rintro e w1 ⟨rfl, hg⟩; obtain ⟨hc, hf⟩ := hg.cells; have hz := hg.size; (try simp at hz); have z0 : w.heap.size < w1.heap.size := (by omega); have z1 : w.heap.size + 1 < w1.heap.size := (by omega); have z2 : w.heap.size + 1 + 1 < w1.heap.size := (by omega)
 go_wp2
 have q0 : w1.cell? ⟨w.heap.size + 1 + 1, 0, none⟩ = some (.bool false) := by go_simp
 have q1 : w1.cell? ⟨w.heap.size + 1 + 1, 1, none⟩ = some (.int .i64 0) := by go_simp
 exact bodyPost_ret (v := .agg #[.bool (mdV a.n 1000000 b.n).ok, .int .i64 (mdV a.n 1000000 b.n).n]) (by simp [results, Tryz.results120, go_sem, mdV, *]) rfl ⟨rfl, (by repeat (first | exact Gr.refl _ | refine Gr.alloc ?_ _ | refine Gr.drew ?_ | refine Gr.setCell ?_ (by first | (simp; done) | (simp; omega) | omega) _ | refine Gr.trans ?_ (by assumption)))⟩
set_option maxHeartbeats 800000 in
theorem rmul_any (a b : Vl) (w : World) :
  Calls Tryz.prog 71 #[.agg #[.bool a.ok, .int .i64 a.n], .agg #[.bool b.ok, .int .i64 b.n]] w fun e w' => e = .returned (.agg #[.bool (mulV a b).ok, .int .i64 (mulV a b).n]) ∧ Gr w w' := by
 cases hab : (knB a && knB b)
 ·
  have hv : mulV a b = ⟨false, 0⟩ := by simp [mulV, hab]
  rw [hv]; clear hv
  go_enter Tryz.func71, Tryz.ntmps71
  go_wp2_with fail
  refine (two_any a b _).mono ?_; rintro e w1 ⟨rfl, hg⟩; obtain ⟨hc, hf⟩ := hg.cells; have hz := hg.size; (try simp at hz); have z0 : w.heap.size < w1.heap.size := (by omega); have z1 : w.heap.size + 1 < w1.heap.size := (by omega); have z2 : w.heap.size + 1 + 1 < w1.heap.size := (by omega)
  go_wp2
  have q0 : w1.cell? ⟨w.heap.size + 1 + 1, 0, none⟩ = some (.bool false) := by go_simp
  have q1 : w1.cell? ⟨w.heap.size + 1 + 1, 1, none⟩ = some (.int .i64 0) := by go_simp
  exact bodyPost_ret (v := .agg #[.bool false, .int .i64 0]) (by simp [results, Tryz.results71, go_sem, *]) rfl ⟨rfl, (by repeat (first | exact Gr.refl _ | refine Gr.alloc ?_ _ | refine Gr.drew ?_ | refine Gr.setCell ?_ (by first | (simp; done) | (simp; omega) | omega) _ | refine Gr.trans ?_ (by assumption)))⟩
 have hv : mulV a b = mdV a.n b.n 1000000 := by simp [mulV, hab]
 rw [hv]; clear hv
 have ha : knB a = true := by simp at hab; exact hab.1
 have hb : knB b = true := by simp at hab; exact hab.2
 have a1 := knB_lo ha
 have a2 := knB_hi ha
 have b1 := knB_lo hb
 have b2 := knB_hi hb
 have M := Lib.hid (rmuldiv_at a.n b.n 1000000 (by omega) (by omega) (by omega) (by omega) (by omega) (by omega))
 cases hok : mdOk a.n b.n 1000000
 ·
  have hv : mdV a.n b.n 1000000 = ⟨false, 0⟩ := by simp [mdV, hok]
  rw [hv]; clear hv
  go_enter Tryz.func71, Tryz.ntmps71
  go_wp2_with fail
  refine (two_any a b _).mono ?_; rintro e w1 ⟨rfl, hg⟩; obtain ⟨hc, hf⟩ := hg.cells; have hz := hg.size; (try simp at hz); have z0 : w.heap.size < w1.heap.size := (by omega); have z1 : w.heap.size + 1 < w1.heap.size := (by omega); have z2 : w.heap.size + 1 + 1 < w1.heap.size := (by omega)
  go_wp2_with fail
  refine (M.out _).mono ?_; rintro e w1 ⟨rfl, hg⟩; obtain ⟨hc, hf⟩ := hg.cells; have hz := hg.size; (try simp at hz); have z0 : w.heap.size < w1.heap.size := (by omega); have z1 : w.heap.size + 1 < w1.heap.size := (by omega); have z2 : w.heap.size + 1 + 1 < w1.heap.size := (by omega)
  go_wp2
  have q0 : w1.cell? ⟨w.heap.size + 1 + 1, 0, none⟩ = some (.bool false) := by go_simp
  have q1 : w1.cell? ⟨w.heap.size + 1 + 1, 1, none⟩ = some (.int .i64 0) := by go_simp
  exact bodyPost_ret (v := .agg #[.bool false, .int .i64 0]) (by simp [results, Tryz.results71, go_sem, *]) rfl ⟨rfl, (by repeat (first | exact Gr.refl _ | refine Gr.alloc ?_ _ | refine Gr.drew ?_ | refine Gr.setCell ?_ (by first | (simp; done) | (simp; omega) | omega) _ | refine Gr.trans ?_ (by assumption)))⟩
 ·
  have hv : mdV a.n b.n 1000000 = ofV (mdN a.n b.n 1000000) := by simp [mdV, hok]
  rw [hv]; clear hv
  go_enter Tryz.func71, Tryz.ntmps71
  go_wp2_with fail
  refine (two_any a b _).mono ?_; rintro e w1 ⟨rfl, hg⟩; obtain ⟨hc, hf⟩ := hg.cells; have hz := hg.size; (try simp at hz); have z0 : w.heap.size < w1.heap.size := (by omega); have z1 : w.heap.size + 1 < w1.heap.size := (by omega); have z2 : w.heap.size + 1 + 1 < w1.heap.size := (by omega)
  go_wp2_with fail
  refine (M.out _).mono ?_; rintro e w1 ⟨rfl, hg⟩; obtain ⟨hc, hf⟩ := hg.cells; have hz := hg.size; (try simp at hz); have z0 : w.heap.size < w1.heap.size := (by omega); have z1 : w.heap.size + 1 < w1.heap.size := (by omega); have z2 : w.heap.size + 1 + 1 < w1.heap.size := (by omega)
  go_wp2_with fail
  refine (rof_any (mdN a.n b.n 1000000) _).mono ?_; rintro e w1 ⟨rfl, hg⟩; obtain ⟨hc, hf⟩ := hg.cells; have hz := hg.size; (try simp at hz); have z0 : w.heap.size < w1.heap.size := (by omega); have z1 : w.heap.size + 1 < w1.heap.size := (by omega); have z2 : w.heap.size + 1 + 1 < w1.heap.size := (by omega)
  go_wp2
  have q0 : w1.cell? ⟨w.heap.size + 1 + 1, 0, none⟩ = some (.bool false) := by go_simp
  have q1 : w1.cell? ⟨w.heap.size + 1 + 1, 1, none⟩ = some (.int .i64 0) := by go_simp
  exact bodyPost_ret (v := .agg #[.bool (ofV (mdN a.n b.n 1000000)).ok, .int .i64 (ofV (mdN a.n b.n 1000000)).n]) (by simp [results, Tryz.results71, go_sem, *]) rfl ⟨rfl, (by repeat (first | exact Gr.refl _ | refine Gr.alloc ?_ _ | refine Gr.drew ?_ | refine Gr.setCell ?_ (by first | (simp; done) | (simp; omega) | omega) _ | refine Gr.trans ?_ (by assumption)))⟩
set_option maxHeartbeats 800000 in
theorem rdiv_any (a b : Vl) (w : World) :
  Calls Tryz.prog 69 #[.agg #[.bool a.ok, .int .i64 a.n], .agg #[.bool b.ok, .int .i64 b.n]] w fun e w' => e = .returned (.agg #[.bool (divV a b).ok, .int .i64 (divV a b).n]) ∧ Gr w w' := by
 cases hab : (knB a && knB b)
 ·
  have hv : divV a b = ⟨false, 0⟩ := by simp [divV, hab]
  rw [hv]; clear hv
  go_enter Tryz.func69, Tryz.ntmps69
  go_wp2_with fail
  refine (two_any a b _).mono ?_; rintro e w1 ⟨rfl, hg⟩; obtain ⟨hc, hf⟩ := hg.cells; have hz := hg.size; (try simp at hz); have z0 : w.heap.size < w1.heap.size := (by omega); have z1 : w.heap.size + 1 < w1.heap.size := (by omega); have z2 : w.heap.size + 1 + 1 < w1.heap.size := (by omega)
  go_wp2
  have q0 : w1.cell? ⟨w.heap.size + 1 + 1, 0, none⟩ = some (.bool false) := by go_simp
  have q1 : w1.cell? ⟨w.heap.size + 1 + 1, 1, none⟩ = some (.int .i64 0) := by go_simp
  exact bodyPost_ret (v := .agg #[.bool false, .int .i64 0]) (by simp [results, Tryz.results69, go_sem, *]) rfl ⟨rfl, (by repeat (first | exact Gr.refl _ | refine Gr.alloc ?_ _ | refine Gr.drew ?_ | refine Gr.setCell ?_ (by first | (simp; done) | (simp; omega) | omega) _ | refine Gr.trans ?_ (by assumption)))⟩
 have hv : divV a b = mdV a.n 1000000 b.n := by simp [divV, hab]
 rw [hv]; clear hv
 have ha : knB a = true := by simp at hab; exact hab.1
 have hb : knB b = true := by simp at hab; exact hab.2
 have a1 := knB_lo ha
 have a2 := knB_hi ha
 have b1 := knB_lo hb
 have b2 := knB_hi hb
 have M := Lib.hid (rmuldiv_at a.n 1000000 b.n (by omega) (by omega) (by omega) (by omega) (by omega) (by omega))
 cases hok : mdOk a.n 1000000 b.n
 ·
  have hv : mdV a.n 1000000 b.n = ⟨false, 0⟩ := by simp [mdV, hok]
  rw [hv]; clear hv
  go_enter Tryz.func69, Tryz.ntmps69
  go_wp2_with fail
  refine (two_any a b _).mono ?_; rintro e w1 ⟨rfl, hg⟩; obtain ⟨hc, hf⟩ := hg.cells; have hz := hg.size; (try simp at hz); have z0 : w.heap.size < w1.heap.size := (by omega); have z1 : w.heap.size + 1 < w1.heap.size := (by omega); have z2 : w.heap.size + 1 + 1 < w1.heap.size := (by omega)
  go_wp2_with fail
  refine (M.out _).mono ?_; rintro e w1 ⟨rfl, hg⟩; obtain ⟨hc, hf⟩ := hg.cells; have hz := hg.size; (try simp at hz); have z0 : w.heap.size < w1.heap.size := (by omega); have z1 : w.heap.size + 1 < w1.heap.size := (by omega); have z2 : w.heap.size + 1 + 1 < w1.heap.size := (by omega)
  go_wp2
  have q0 : w1.cell? ⟨w.heap.size + 1 + 1, 0, none⟩ = some (.bool false) := by go_simp
  have q1 : w1.cell? ⟨w.heap.size + 1 + 1, 1, none⟩ = some (.int .i64 0) := by go_simp
  exact bodyPost_ret (v := .agg #[.bool false, .int .i64 0]) (by simp [results, Tryz.results69, go_sem, *]) rfl ⟨rfl, (by repeat (first | exact Gr.refl _ | refine Gr.alloc ?_ _ | refine Gr.drew ?_ | refine Gr.setCell ?_ (by first | (simp; done) | (simp; omega) | omega) _ | refine Gr.trans ?_ (by assumption)))⟩
 ·
  have hv : mdV a.n 1000000 b.n = ofV (mdN a.n 1000000 b.n) := by simp [mdV, hok]
  rw [hv]; clear hv
  go_enter Tryz.func69, Tryz.ntmps69
  go_wp2_with fail
  refine (two_any a b _).mono ?_; rintro e w1 ⟨rfl, hg⟩; obtain ⟨hc, hf⟩ := hg.cells; have hz := hg.size; (try simp at hz); have z0 : w.heap.size < w1.heap.size := (by omega); have z1 : w.heap.size + 1 < w1.heap.size := (by omega); have z2 : w.heap.size + 1 + 1 < w1.heap.size := (by omega)
  go_wp2_with fail
  refine (M.out _).mono ?_; rintro e w1 ⟨rfl, hg⟩; obtain ⟨hc, hf⟩ := hg.cells; have hz := hg.size; (try simp at hz); have z0 : w.heap.size < w1.heap.size := (by omega); have z1 : w.heap.size + 1 < w1.heap.size := (by omega); have z2 : w.heap.size + 1 + 1 < w1.heap.size := (by omega)
  go_wp2_with fail
  refine (rof_any (mdN a.n 1000000 b.n) _).mono ?_; rintro e w1 ⟨rfl, hg⟩; obtain ⟨hc, hf⟩ := hg.cells; have hz := hg.size; (try simp at hz); have z0 : w.heap.size < w1.heap.size := (by omega); have z1 : w.heap.size + 1 < w1.heap.size := (by omega); have z2 : w.heap.size + 1 + 1 < w1.heap.size := (by omega)
  go_wp2
  have q0 : w1.cell? ⟨w.heap.size + 1 + 1, 0, none⟩ = some (.bool false) := by go_simp
  have q1 : w1.cell? ⟨w.heap.size + 1 + 1, 1, none⟩ = some (.int .i64 0) := by go_simp
  exact bodyPost_ret (v := .agg #[.bool (ofV (mdN a.n 1000000 b.n)).ok, .int .i64 (ofV (mdN a.n 1000000 b.n)).n]) (by simp [results, Tryz.results69, go_sem, *]) rfl ⟨rfl, (by repeat (first | exact Gr.refl _ | refine Gr.alloc ?_ _ | refine Gr.drew ?_ | refine Gr.setCell ?_ (by first | (simp; done) | (simp; omega) | omega) _ | refine Gr.trans ?_ (by assumption)))⟩
end Go.Proofs.YtbdichmkgcngbaaGreat
