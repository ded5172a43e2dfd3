/- Contracts of Sub, of the program and of the reference. -/
import Derived.Test.YtafmbnpcdhpppaaFxTwo
import Derived.Deep.RegionHeld3
import Derived.IntWalk
namespace Go.Proofs.Ytafmbnpcdhpppaa
open Go.RowKit

theorem subV_eq {a b : Vl} (h : knB b = true) : subV a b = sumV a (ofV (-b.n)) := by
  have b1 := knB_lo h
  have b2 := knB_hi h
  have e : ofV (-b.n) = ⟨true, -b.n⟩ := ofV_in (by omega) (by omega)
  have k : knB (ofV (-b.n)) = true := by rw [e, knB_iff]; exact ⟨rfl, by simp; omega, by simp; omega⟩
  unfold subV sumV
  rw [k, h, e]
  rfl
set_option maxRecDepth 100000 in
set_option maxHeartbeats 400000 in
theorem sub_any (a b : Vl) (w : World) :
    Calls Try.prog 30 #[.agg #[.bool a.ok, .int .i64 a.n], .agg #[.bool b.ok, .int .i64 b.n]] w fun e w' => e = .returned (.agg #[.bool (subV a b).ok, .int .i64 (subV a b).n]) ∧ Gr w w' := by
  cases hb : knB b
  · have hv : subV a b = ⟨false, 0⟩ := by simp [subV, hb]
    rw [hv]; clear hv
    go_enter Try.func30, Try.ntmps30
    go_wp2_with fail
    refine (kn_any b _).mono ?_; rintro e w1 ⟨rfl, hg⟩; obtain ⟨hc, hf⟩ := hg.cells; have hz := hg.size; (try simp at hz); have z0 : w.heap.size < w1.heap.size := (by omega); have z1 : w.heap.size + 1 < w1.heap.size := (by omega); have z2 : w.heap.size + 1 + 1 < w1.heap.size := (by omega)
    go_wp2
    have q0 : w1.cell? ⟨w.heap.size + 1 + 1, 0, none⟩ = some (.bool false) := by go_simp
    have q1 : w1.cell? ⟨w.heap.size + 1 + 1, 1, none⟩ = some (.int .i64 0) := by go_simp
    exact bodyPost_ret (v := .agg #[.bool false, .int .i64 0]) (by simp [results, Try.results30, go_sem, *]) rfl ⟨rfl, (by repeat (first | exact Gr.refl _ | refine Gr.alloc ?_ _ | refine Gr.drew ?_ | refine Gr.setCell ?_ (by first | (simp; done) | (simp; omega) | omega) _ | refine Gr.trans ?_ (by assumption)))⟩
  have b1 := knB_lo hb
  have b2 := knB_hi hb
  rw [subV_eq hb]
  go_enter Try.func30, Try.ntmps30
  go_wp2_with fail
  refine (kn_any b _).mono ?_; rintro e w1 ⟨rfl, hg⟩; obtain ⟨hc, hf⟩ := hg.cells; have hz := hg.size; (try simp at hz); have z0 : w.heap.size < w1.heap.size := (by omega); have z1 : w.heap.size + 1 < w1.heap.size := (by omega); have z2 : w.heap.size + 1 + 1 < w1.heap.size := (by omega)
  go_wp2
  have s0 : w1.cell? ⟨w.heap.size, 0, none⟩ = some (.bool a.ok) := by go_simp
  have s1 : w1.cell? ⟨w.heap.size, 1, none⟩ = some (.int .i64 a.n) := by go_simp
  have s2 : w1.cell? ⟨w.heap.size + 1, 0, none⟩ = some (.bool b.ok) := by go_simp
  have s3 : w1.cell? ⟨w.heap.size + 1, 1, none⟩ = some (.int .i64 b.n) := by go_simp
  have s4 : w1.cell? ⟨w.heap.size + 1 + 1, 0, none⟩ = some (.bool false) := by go_simp
  have s5 : w1.cell? ⟨w.heap.size + 1 + 1, 1, none⟩ = some (.int .i64 0) := by go_simp
  have s6 : w1.frozen? ⟨w.heap.size + 1 + 1, 0, none⟩ = false := by go_simp
  have s7 : w1.frozen? ⟨w.heap.size + 1 + 1, 1, none⟩ = false := by go_simp
  have hgw : Gr w w1 := (by repeat (first | exact Gr.refl _ | refine Gr.alloc ?_ _ | refine Gr.drew ?_ | refine Gr.setCell ?_ (by first | (simp; done) | (simp; omega) | omega) _ | refine Gr.trans ?_ (by assumption)))
  clear hc hf hg
  have hneg : IntKind.i64.wrap (-b.n) = -b.n := IntWalk.i64_in _ (by omega)
  clear b1 b2
  go_region_held3 (fun W => W.cell? ⟨w.heap.size, 0, none⟩ = some (.bool a.ok) ∧ W.cell? ⟨w.heap.size, 1, none⟩ = some (.int .i64 a.n) ∧ W.cell? ⟨w.heap.size + 1, 1, none⟩ = some (.int .i64 b.n)) (first | exact ⟨e0, e1, e2⟩ | (refine ⟨?_, ?_, ?_⟩ <;> (go_simp; done)) | go_keep)
    (first
      | (go_at_call 12; refine (of_any (-b.n) _).mono ?_; rintro e w2 ⟨rfl, hg2⟩; have e0 := (hg2.cell (p := ⟨w.heap.size, 0, none⟩) (by exact z0)).trans s0; have e1 := (hg2.cell (p := ⟨w.heap.size, 1, none⟩) (by exact z0)).trans s1; have e2 := (hg2.cell (p := ⟨w.heap.size + 1, 1, none⟩) (by exact z1)).trans s3; have hz2 := hg2.size; (try simp at hz2); have x0 : w.heap.size < w2.heap.size := (by omega); have x1 : w.heap.size + 1 < w2.heap.size := (by omega); have x2 : w.heap.size + 1 + 1 < w2.heap.size := (by omega))
      | (go_at_call 44; refine (sum_any a (ofV (-b.n)) _).mono ?_; rintro e w3 ⟨rfl, hg3⟩; have e0 := (hg3.cell (p := ⟨w.heap.size, 0, none⟩) (by exact x0)).trans e0; have e1 := (hg3.cell (p := ⟨w.heap.size, 1, none⟩) (by exact x0)).trans e1; have e2 := (hg3.cell (p := ⟨w.heap.size + 1, 1, none⟩) (by exact x1)).trans e2; have f0 := ((hg3.cell (p := ⟨w.heap.size + 1 + 1, 0, none⟩) (by exact x2)).trans (hg2.cell (p := ⟨w.heap.size + 1 + 1, 0, none⟩) (by exact z2))).trans s4; have f1 := ((hg3.cell (p := ⟨w.heap.size + 1 + 1, 1, none⟩) (by exact x2)).trans (hg2.cell (p := ⟨w.heap.size + 1 + 1, 1, none⟩) (by exact z2))).trans s5; have f2 := ((hg3.frozen (p := ⟨w.heap.size + 1 + 1, 0, none⟩) (by exact x2)).trans (hg2.frozen (p := ⟨w.heap.size + 1 + 1, 0, none⟩) (by exact z2))).trans s6; have f3 := ((hg3.frozen (p := ⟨w.heap.size + 1 + 1, 1, none⟩) (by exact x2)).trans (hg2.frozen (p := ⟨w.heap.size + 1 + 1, 1, none⟩) (by exact z2))).trans s7))
  go_wp2
  exact bodyPost_ret (v := .agg #[.bool (sumV a (ofV (-b.n))).ok, .int .i64 (sumV a (ofV (-b.n))).n]) (by simp [results, Try.results30, go_sem, *]) rfl ⟨rfl, (by repeat (first | exact Gr.refl _ | refine Gr.alloc ?_ _ | refine Gr.drew ?_ | refine Gr.setCell ?_ (by first | (simp; done) | (simp; omega) | omega) _ | refine Gr.trans ?_ (by assumption)))⟩
set_option maxRecDepth 100000 in
set_option maxHeartbeats 400000 in
theorem rsub_any (a b : Vl) (w : World) :
    Calls Try.prog 31 #[.agg #[.bool a.ok, .int .i64 a.n], .agg #[.bool b.ok, .int .i64 b.n]] w fun e w' => e = .returned (.agg #[.bool (subV a b).ok, .int .i64 (subV a b).n]) ∧ Gr w w' := by
  cases hb : (knB a && knB b)
  · have hv : subV a b = ⟨false, 0⟩ := by simp [subV, hb]
    rw [hv]; clear hv
    go_enter Try.func31, Try.ntmps31
    go_wp2_with fail
    refine (two_any a b _).mono ?_; rintro e w1 ⟨rfl, hg⟩; obtain ⟨hc, hf⟩ := hg.cells; have hz := hg.size; (try simp at hz); have z0 : w.heap.size < w1.heap.size := (by omega); have z1 : w.heap.size + 1 < w1.heap.size := (by omega); have z2 : w.heap.size + 1 + 1 < w1.heap.size := (by omega)
    go_wp2
    have q0 : w1.cell? ⟨w.heap.size + 1 + 1, 0, none⟩ = some (.bool false) := by go_simp
    have q1 : w1.cell? ⟨w.heap.size + 1 + 1, 1, none⟩ = some (.int .i64 0) := by go_simp
    exact bodyPost_ret (v := .agg #[.bool false, .int .i64 0]) (by simp [results, Try.results31, go_sem, *]) rfl ⟨rfl, (by repeat (first | exact Gr.refl _ | refine Gr.alloc ?_ _ | refine Gr.drew ?_ | refine Gr.setCell ?_ (by first | (simp; done) | (simp; omega) | omega) _ | refine Gr.trans ?_ (by assumption)))⟩
  have hb' : knB b = true := by simp at hb; exact hb.2
  have ha' : knB a = true := by simp at hb; exact hb.1
  have b1 := knB_lo hb'
  have b2 := knB_hi hb'
  rw [subV_eq hb']
  go_enter Try.func31, Try.ntmps31
  go_wp2_with fail
  refine (two_any a b _).mono ?_; rintro e w1 ⟨rfl, hg⟩; obtain ⟨hc, hf⟩ := hg.cells; have hz := hg.size; (try simp at hz); have z0 : w.heap.size < w1.heap.size := (by omega); have z1 : w.heap.size + 1 < w1.heap.size := (by omega); have z2 : w.heap.size + 1 + 1 < w1.heap.size := (by omega)
  go_wp2
  have s0 : w1.cell? ⟨w.heap.size, 0, none⟩ = some (.bool a.ok) := by go_simp
  have s1 : w1.cell? ⟨w.heap.size, 1, none⟩ = some (.int .i64 a.n) := by go_simp
  have s2 : w1.cell? ⟨w.heap.size + 1, 0, none⟩ = some (.bool b.ok) := by go_simp
  have s3 : w1.cell? ⟨w.heap.size + 1, 1, none⟩ = some (.int .i64 b.n) := by go_simp
  have s4 : w1.cell? ⟨w.heap.size + 1 + 1, 0, none⟩ = some (.bool false) := by go_simp
  have s5 : w1.cell? ⟨w.heap.size + 1 + 1, 1, none⟩ = some (.int .i64 0) := by go_simp
  have s6 : w1.frozen? ⟨w.heap.size + 1 + 1, 0, none⟩ = false := by go_simp
  have s7 : w1.frozen? ⟨w.heap.size + 1 + 1, 1, none⟩ = false := by go_simp
  have hgw : Gr w w1 := (by repeat (first | exact Gr.refl _ | refine Gr.alloc ?_ _ | refine Gr.drew ?_ | refine Gr.setCell ?_ (by first | (simp; done) | (simp; omega) | omega) _ | refine Gr.trans ?_ (by assumption)))
  clear hc hf hg
  have hneg : IntKind.i64.wrap (-b.n) = -b.n := IntWalk.i64_in _ (by omega)
  clear b1 b2
  go_region_held3 (fun W => W.cell? ⟨w.heap.size, 0, none⟩ = some (.bool a.ok) ∧ W.cell? ⟨w.heap.size, 1, none⟩ = some (.int .i64 a.n) ∧ W.cell? ⟨w.heap.size + 1, 1, none⟩ = some (.int .i64 b.n)) (first | exact ⟨e0, e1, e2⟩ | (refine ⟨?_, ?_, ?_⟩ <;> (go_simp; done)) | go_keep)
    (first
      | (go_at_call 13; refine (rof_any (-b.n) _).mono ?_; rintro e w2 ⟨rfl, hg2⟩; have e0 := (hg2.cell (p := ⟨w.heap.size, 0, none⟩) (by exact z0)).trans s0; have e1 := (hg2.cell (p := ⟨w.heap.size, 1, none⟩) (by exact z0)).trans s1; have e2 := (hg2.cell (p := ⟨w.heap.size + 1, 1, none⟩) (by exact z1)).trans s3; have hz2 := hg2.size; (try simp at hz2); have x0 : w.heap.size < w2.heap.size := (by omega); have x1 : w.heap.size + 1 < w2.heap.size := (by omega); have x2 : w.heap.size + 1 + 1 < w2.heap.size := (by omega))
      | (go_at_call 45; refine (plus_any a (ofV (-b.n)) _).mono ?_; rintro e w3 ⟨rfl, hg3⟩; have e0 := (hg3.cell (p := ⟨w.heap.size, 0, none⟩) (by exact x0)).trans e0; have e1 := (hg3.cell (p := ⟨w.heap.size, 1, none⟩) (by exact x0)).trans e1; have e2 := (hg3.cell (p := ⟨w.heap.size + 1, 1, none⟩) (by exact x1)).trans e2; have f0 := ((hg3.cell (p := ⟨w.heap.size + 1 + 1, 0, none⟩) (by exact x2)).trans (hg2.cell (p := ⟨w.heap.size + 1 + 1, 0, none⟩) (by exact z2))).trans s4; have f1 := ((hg3.cell (p := ⟨w.heap.size + 1 + 1, 1, none⟩) (by exact x2)).trans (hg2.cell (p := ⟨w.heap.size + 1 + 1, 1, none⟩) (by exact z2))).trans s5; have f2 := ((hg3.frozen (p := ⟨w.heap.size + 1 + 1, 0, none⟩) (by exact x2)).trans (hg2.frozen (p := ⟨w.heap.size + 1 + 1, 0, none⟩) (by exact z2))).trans s6; have f3 := ((hg3.frozen (p := ⟨w.heap.size + 1 + 1, 1, none⟩) (by exact x2)).trans (hg2.frozen (p := ⟨w.heap.size + 1 + 1, 1, none⟩) (by exact z2))).trans s7))
  go_wp2
  exact bodyPost_ret (v := .agg #[.bool (sumV a (ofV (-b.n))).ok, .int .i64 (sumV a (ofV (-b.n))).n]) (by simp [results, Try.results31, go_sem, *]) rfl ⟨rfl, (by repeat (first | exact Gr.refl _ | refine Gr.alloc ?_ _ | refine Gr.drew ?_ | refine Gr.setCell ?_ (by first | (simp; done) | (simp; omega) | omega) _ | refine Gr.trans ?_ (by assumption)))⟩
end Go.Proofs.Ytafmbnpcdhpppaa
