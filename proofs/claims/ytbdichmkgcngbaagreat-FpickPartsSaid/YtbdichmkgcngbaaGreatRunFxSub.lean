/- Contracts of Sub, of the program and of the reference. · The contracts of Sqrt, of the program and of the reference. · The contract of fwin.Deviation: how far values are from their middle. -/
import Derived.Test.YtbdichmkgcngbaaGreatRunFxTwo
import Derived.Deep.RegionHeld3
import Derived.IntWalk
import Derived.Test.YtbdichmkgcngbaaGreatRunFxSqM
import Derived.Outline
import Derived.Test.YtbdichmkgcngbaaGreatRunFxBase
namespace Go.Proofs.YtbdichmkgcngbaaGreat
open Go.RowKit

theorem subV_eq {a b : Vl} (h : knB b = true) : subV a b = sumV a (ofV (-b.n)) := by
 have b1 := knB_lo h
 have b2 := knB_hi h
 have e : ofV (-b.n) = ⟨true, -b.n⟩ := ofV_in (by omega) (by omega)
 have k : knB (ofV (-b.n)) = true := by rw [e, knB_iff]; exact ⟨rfl, by simp; omega, by simp; omega⟩
 unfold subV sumV
 rw [k, h, e]
 rfl
set_option maxRecDepth 100000 in
set_option maxHeartbeats 400000 in
theorem sub_any (a b : Vl) (w : World) :
  Calls Tryz.prog 116 #[.agg #[.bool a.ok, .int .i64 a.n], .agg #[.bool b.ok, .int .i64 b.n]] w fun e w' => e = .returned (.agg #[.bool (subV a b).ok, .int .i64 (subV a b).n]) ∧ Gr w w' := by
 cases hb : knB b
 ·
  have hv : subV a b = ⟨false, 0⟩ := by simp [subV, hb]
  rw [hv]; clear hv
  go_enter Tryz.func116, Tryz.ntmps116
  go_wp2_with fail
  refine (kn_any b _).mono ?_; rintro e w1 ⟨rfl, hg⟩; obtain ⟨hc, hf⟩ := hg.cells; have hz := hg.size; (try simp at hz); have z0 : w.heap.size < w1.heap.size := (by omega); have z1 : w.heap.size + 1 < w1.heap.size := (by omega); have z2 : w.heap.size + 1 + 1 < w1.heap.size := (by omega)
  go_wp2
  have q0 : w1.cell? ⟨w.heap.size + 1 + 1, 0, none⟩ = some (.bool false) := by go_simp
  have q1 : w1.cell? ⟨w.heap.size + 1 + 1, 1, none⟩ = some (.int .i64 0) := by go_simp
  exact bodyPost_ret (v := .agg #[.bool false, .int .i64 0]) (by simp [results, Tryz.results116, go_sem, *]) rfl ⟨rfl, (by repeat (first | exact Gr.refl _ | refine Gr.alloc ?_ _ | refine Gr.drew ?_ | refine Gr.setCell ?_ (by first | (simp; done) | (simp; omega) | omega) _ | refine Gr.trans ?_ (by assumption)))⟩
 have b1 := knB_lo hb
 have b2 := knB_hi hb
 rw [subV_eq hb]
 go_enter Tryz.func116, Tryz.ntmps116
 go_wp2_with fail
 refine (kn_any b _).mono ?_; rintro e w1 ⟨rfl, hg⟩; obtain ⟨hc, hf⟩ := hg.cells; have hz := hg.size; (try simp at hz); have z0 : w.heap.size < w1.heap.size := (by omega); have z1 : w.heap.size + 1 < w1.heap.size := (by omega); have z2 : w.heap.size + 1 + 1 < w1.heap.size := (by omega)
 go_wp2
 have s0 : w1.cell? ⟨w.heap.size, 0, none⟩ = some (.bool a.ok) := by go_simp
 have s1 : w1.cell? ⟨w.heap.size, 1, none⟩ = some (.int .i64 a.n) := by go_simp
 have s2 : w1.cell? ⟨w.heap.size + 1, 0, none⟩ = some (.bool b.ok) := by go_simp
 have s3 : w1.cell? ⟨w.heap.size + 1, 1, none⟩ = some (.int .i64 b.n) := by go_simp
 have s4 : w1.cell? ⟨w.heap.size + 1 + 1, 0, none⟩ = some (.bool false) := by go_simp
 have s5 : w1.cell? ⟨w.heap.size + 1 + 1, 1, none⟩ = some (.int .i64 0) := by go_simp
 have s6 : w1.frozen? ⟨w.heap.size + 1 + 1, 0, none⟩ = false := by go_simp
 have s7 : w1.frozen? ⟨w.heap.size + 1 + 1, 1, none⟩ = false := by go_simp
 have hgw : Gr w w1 := (by repeat (first | exact Gr.refl _ | refine Gr.alloc ?_ _ | refine Gr.drew ?_ | refine Gr.setCell ?_ (by first | (simp; done) | (simp; omega) | omega) _ | refine Gr.trans ?_ (by assumption)))
 clear hc hf hg
 have hneg : IntKind.i64.wrap (-b.n) = -b.n := IntWalk.i64_in _ (by omega)
 clear b1 b2
 go_region_held3 (fun W => W.cell? ⟨w.heap.size, 0, none⟩ = some (.bool a.ok) ∧ W.cell? ⟨w.heap.size, 1, none⟩ = some (.int .i64 a.n) ∧ W.cell? ⟨w.heap.size + 1, 1, none⟩ = some (.int .i64 b.n)) (first | exact ⟨e0, e1, e2⟩ | (refine ⟨?_, ?_, ?_⟩ <;> (go_simp; done)) | go_keep)
  (first
   | (go_at_call 134; refine (of_any (-b.n) _).mono ?_; rintro e w2 ⟨rfl, hg2⟩; have e0 := (hg2.cell (p := ⟨w.heap.size, 0, none⟩) (by exact z0)).trans s0; have e1 := (hg2.cell (p := ⟨w.heap.size, 1, none⟩) (by exact z0)).trans s1; have e2 := (hg2.cell (p := ⟨w.heap.size + 1, 1, none⟩) (by exact z1)).trans s3; have hz2 := hg2.size; (try simp at hz2); have x0 : w.heap.size < w2.heap.size := (by omega); have x1 : w.heap.size + 1 < w2.heap.size := (by omega); have x2 : w.heap.size + 1 + 1 < w2.heap.size := (by omega))
   | (go_at_call 133; refine (sum_any a (ofV (-b.n)) _).mono ?_; rintro e w3 ⟨rfl, hg3⟩; have e0 := (hg3.cell (p := ⟨w.heap.size, 0, none⟩) (by exact x0)).trans e0; have e1 := (hg3.cell (p := ⟨w.heap.size, 1, none⟩) (by exact x0)).trans e1; have e2 := (hg3.cell (p := ⟨w.heap.size + 1, 1, none⟩) (by exact x1)).trans e2; have f0 := ((hg3.cell (p := ⟨w.heap.size + 1 + 1, 0, none⟩) (by exact x2)).trans (hg2.cell (p := ⟨w.heap.size + 1 + 1, 0, none⟩) (by exact z2))).trans s4; have f1 := ((hg3.cell (p := ⟨w.heap.size + 1 + 1, 1, none⟩) (by exact x2)).trans (hg2.cell (p := ⟨w.heap.size + 1 + 1, 1, none⟩) (by exact z2))).trans s5; have f2 := ((hg3.frozen (p := ⟨w.heap.size + 1 + 1, 0, none⟩) (by exact x2)).trans (hg2.frozen (p := ⟨w.heap.size + 1 + 1, 0, none⟩) (by exact z2))).trans s6; have f3 := ((hg3.frozen (p := ⟨w.heap.size + 1 + 1, 1, none⟩) (by exact x2)).trans (hg2.frozen (p := ⟨w.heap.size + 1 + 1, 1, none⟩) (by exact z2))).trans s7))
 go_wp2
 exact bodyPost_ret (v := .agg #[.bool (sumV a (ofV (-b.n))).ok, .int .i64 (sumV a (ofV (-b.n))).n]) (by simp [results, Tryz.results116, go_sem, *]) rfl ⟨rfl, (by repeat (first | exact Gr.refl _ | refine Gr.alloc ?_ _ | refine Gr.drew ?_ | refine Gr.setCell ?_ (by first | (simp; done) | (simp; omega) | omega) _ | refine Gr.trans ?_ (by assumption)))⟩
set_option maxRecDepth 100000 in
set_option maxHeartbeats 400000 in
theorem rsub_any (a b : Vl) (w : World) :
  Calls Tryz.prog 70 #[.agg #[.bool a.ok, .int .i64 a.n], .agg #[.bool b.ok, .int .i64 b.n]] w fun e w' => e = .returned (.agg #[.bool (subV a b).ok, .int .i64 (subV a b).n]) ∧ Gr w w' := by
 cases hb : (knB a && knB b)
 ·
  have hv : subV a b = ⟨false, 0⟩ := by simp [subV, hb]
  rw [hv]; clear hv
  go_enter Tryz.func70, Tryz.ntmps70
  go_wp2_with fail
  refine (two_any a b _).mono ?_; rintro e w1 ⟨rfl, hg⟩; obtain ⟨hc, hf⟩ := hg.cells; have hz := hg.size; (try simp at hz); have z0 : w.heap.size < w1.heap.size := (by omega); have z1 : w.heap.size + 1 < w1.heap.size := (by omega); have z2 : w.heap.size + 1 + 1 < w1.heap.size := (by omega)
  go_wp2
  have q0 : w1.cell? ⟨w.heap.size + 1 + 1, 0, none⟩ = some (.bool false) := by go_simp
  have q1 : w1.cell? ⟨w.heap.size + 1 + 1, 1, none⟩ = some (.int .i64 0) := by go_simp
  exact bodyPost_ret (v := .agg #[.bool false, .int .i64 0]) (by simp [results, Tryz.results70, go_sem, *]) rfl ⟨rfl, (by repeat (first | exact Gr.refl _ | refine Gr.alloc ?_ _ | refine Gr.drew ?_ | refine Gr.setCell ?_ (by first | (simp; done) | (simp; omega) | omega) _ | refine Gr.trans ?_ (by assumption)))⟩
 have hb' : knB b = true := by simp at hb; exact hb.2
 have ha' : knB a = true := by simp at hb; exact hb.1
 have b1 := knB_lo hb'
 have b2 := knB_hi hb'
 rw [subV_eq hb']
 go_enter Tryz.func70, Tryz.ntmps70
 go_wp2_with fail
 refine (two_any a b _).mono ?_; rintro e w1 ⟨rfl, hg⟩; obtain ⟨hc, hf⟩ := hg.cells; have hz := hg.size; (try simp at hz); have z0 : w.heap.size < w1.heap.size := (by omega); have z1 : w.heap.size + 1 < w1.heap.size := (by omega); have z2 : w.heap.size + 1 + 1 < w1.heap.size := (by omega)
 go_wp2
 have s0 : w1.cell? ⟨w.heap.size, 0, none⟩ = some (.bool a.ok) := by go_simp
 have s1 : w1.cell? ⟨w.heap.size, 1, none⟩ = some (.int .i64 a.n) := by go_simp
 have s2 : w1.cell? ⟨w.heap.size + 1, 0, none⟩ = some (.bool b.ok) := by go_simp
 have s3 : w1.cell? ⟨w.heap.size + 1, 1, none⟩ = some (.int .i64 b.n) := by go_simp
 have s4 : w1.cell? ⟨w.heap.size + 1 + 1, 0, none⟩ = some (.bool false) := by go_simp
 have s5 : w1.cell? ⟨w.heap.size + 1 + 1, 1, none⟩ = some (.int .i64 0) := by go_simp
 have s6 : w1.frozen? ⟨w.heap.size + 1 + 1, 0, none⟩ = false := by go_simp
 have s7 : w1.frozen? ⟨w.heap.size + 1 + 1, 1, none⟩ = false := by go_simp
 have hgw : Gr w w1 := (by repeat (first | exact Gr.refl _ | refine Gr.alloc ?_ _ | refine Gr.drew ?_ | refine Gr.setCell ?_ (by first | (simp; done) | (simp; omega) | omega) _ | refine Gr.trans ?_ (by assumption)))
 clear hc hf hg
 have hneg : IntKind.i64.wrap (-b.n) = -b.n := IntWalk.i64_in _ (by omega)
 clear b1 b2
 go_region_held3 (fun W => W.cell? ⟨w.heap.size, 0, none⟩ = some (.bool a.ok) ∧ W.cell? ⟨w.heap.size, 1, none⟩ = some (.int .i64 a.n) ∧ W.cell? ⟨w.heap.size + 1, 1, none⟩ = some (.int .i64 b.n)) (first | exact ⟨e0, e1, e2⟩ | (refine ⟨?_, ?_, ?_⟩ <;> (go_simp; done)) | go_keep)
  (first
   | (go_at_call 39; refine (rof_any (-b.n) _).mono ?_; rintro e w2 ⟨rfl, hg2⟩; have e0 := (hg2.cell (p := ⟨w.heap.size, 0, none⟩) (by exact z0)).trans s0; have e1 := (hg2.cell (p := ⟨w.heap.size, 1, none⟩) (by exact z0)).trans s1; have e2 := (hg2.cell (p := ⟨w.heap.size + 1, 1, none⟩) (by exact z1)).trans s3; have hz2 := hg2.size; (try simp at hz2); have x0 : w.heap.size < w2.heap.size := (by omega); have x1 : w.heap.size + 1 < w2.heap.size := (by omega); have x2 : w.heap.size + 1 + 1 < w2.heap.size := (by omega))
   | (go_at_call 96; refine (plus_any a (ofV (-b.n)) _).mono ?_; rintro e w3 ⟨rfl, hg3⟩; have e0 := (hg3.cell (p := ⟨w.heap.size, 0, none⟩) (by exact x0)).trans e0; have e1 := (hg3.cell (p := ⟨w.heap.size, 1, none⟩) (by exact x0)).trans e1; have e2 := (hg3.cell (p := ⟨w.heap.size + 1, 1, none⟩) (by exact x1)).trans e2; have f0 := ((hg3.cell (p := ⟨w.heap.size + 1 + 1, 0, none⟩) (by exact x2)).trans (hg2.cell (p := ⟨w.heap.size + 1 + 1, 0, none⟩) (by exact z2))).trans s4; have f1 := ((hg3.cell (p := ⟨w.heap.size + 1 + 1, 1, none⟩) (by exact x2)).trans (hg2.cell (p := ⟨w.heap.size + 1 + 1, 1, none⟩) (by exact z2))).trans s5; have f2 := ((hg3.frozen (p := ⟨w.heap.size + 1 + 1, 0, none⟩) (by exact x2)).trans (hg2.frozen (p := ⟨w.heap.size + 1 + 1, 0, none⟩) (by exact z2))).trans s6; have f3 := ((hg3.frozen (p := ⟨w.heap.size + 1 + 1, 1, none⟩) (by exact x2)).trans (hg2.frozen (p := ⟨w.heap.size + 1 + 1, 1, none⟩) (by exact z2))).trans s7))
 go_wp2
 exact bodyPost_ret (v := .agg #[.bool (sumV a (ofV (-b.n))).ok, .int .i64 (sumV a (ofV (-b.n))).n]) (by simp [results, Tryz.results70, go_sem, *]) rfl ⟨rfl, (by repeat (first | exact Gr.refl _ | refine Gr.alloc ?_ _ | refine Gr.drew ?_ | refine Gr.setCell ?_ (by first | (simp; done) | (simp; omega) | omega) _ | refine Gr.trans ?_ (by assumption)))⟩
end Go.Proofs.YtbdichmkgcngbaaGreat
namespace Go.Proofs.YtbdichmkgcngbaaGreat
open Go.RowKit

set_option maxRecDepth 100000 in
set_option maxHeartbeats 3200000 in
theorem sqrt_any (a : Vl) (w : World) :
  Calls Tryz.prog 118 #[.agg #[.bool a.ok, .int .i64 a.n]] w fun e w' => e = .returned (.agg #[.bool (sqrtV a).ok, .int .i64 (sqrtV a).n]) ∧ Gr w w' := by
 cases ha : knB a
 ·
  have hv : sqrtV a = ⟨false, 0⟩ := by simp [sqrtV, ha]
  rw [hv]; clear hv
  go_enter Tryz.func118, Tryz.ntmps118
  go_wp2_with fail
  refine (kn_any a _).mono ?_; rintro e w1 ⟨rfl, hg⟩; obtain ⟨hc, hf⟩ := hg.cells; have hz := hg.size; (try simp at hz); have z0 : w.heap.size < w1.heap.size := (by omega); have z1 : w.heap.size + 1 < w1.heap.size := (by omega)
  go_wp2
  have q0 : w1.cell? ⟨w.heap.size + 1, 0, none⟩ = some (.bool false) := by go_simp
  have q1 : w1.cell? ⟨w.heap.size + 1, 1, none⟩ = some (.int .i64 0) := by go_simp
  exact bodyPost_ret (v := .agg #[.bool false, .int .i64 0]) (by simp [results, Tryz.results118, go_sem, *]) rfl ⟨rfl, (by repeat (first | exact Gr.refl _ | refine Gr.alloc ?_ _ | refine Gr.drew ?_ | refine Gr.setCell ?_ (by first | (simp; done) | (simp; omega) | omega) _ | refine Gr.trans ?_ (by assumption)))⟩
 by_cases h0 : a.n < 0
 ·
  have hv : sqrtV a = ⟨false, 0⟩ := by
   have : ¬ 0 ≤ a.n := by omega
   simp [sqrtV, ha, this]
  rw [hv]; clear hv
  go_enter Tryz.func118, Tryz.ntmps118
  go_wp2_with fail
  refine (kn_any a _).mono ?_; rintro e w1 ⟨rfl, hg⟩; obtain ⟨hc, hf⟩ := hg.cells; have hz := hg.size; (try simp at hz); have z0 : w.heap.size < w1.heap.size := (by omega); have z1 : w.heap.size + 1 < w1.heap.size := (by omega)
  go_wp2
  have q0 : w1.cell? ⟨w.heap.size + 1, 0, none⟩ = some (.bool false) := by go_simp
  have q1 : w1.cell? ⟨w.heap.size + 1, 1, none⟩ = some (.int .i64 0) := by go_simp
  exact bodyPost_ret (v := .agg #[.bool false, .int .i64 0]) (by simp [results, Tryz.results118, go_sem, *]) rfl ⟨rfl, (by repeat (first | exact Gr.refl _ | refine Gr.alloc ?_ _ | refine Gr.drew ?_ | refine Gr.setCell ?_ (by first | (simp; done) | (simp; omega) | omega) _ | refine Gr.trans ?_ (by assumption)))⟩
 have h0' : 0 ≤ a.n := by omega
 have a2 := knB_hi ha
 obtain ⟨ok, m⟩ := a
 simp only at h0' a2 h0
 obtain ⟨N0, rfl⟩ : ∃ N0 : Nat, m = (N0 : Int) := ⟨m.toNat, by omega⟩
 have hv : sqrtV ⟨ok, (N0 : Int)⟩ = ofV (rtN (N0 * 1000000)) := by
  unfold sqrtV
  rw [ha, Int.toNat_natCast, decide_eq_true (Int.natCast_nonneg N0), Bool.and_self, cond_true]
 rw [hv]; clear hv
 obtain ⟨N, hN⟩ : ∃ N, N = N0 * 1000000 := ⟨_, rfl⟩
 have hN84 : N < 2 ^ 84 := by
  have : (2 : Nat) ^ 84 = 19342813113834066795298816 := by decide
  omega
 have M0' := mul64_any N0 1000000 (by omega) (by omega)
 rw [← hN] at M0' ⊢
 obtain ⟨H, hH⟩ : ∃ H, N / 18446744073709551616 = H := ⟨_, rfl⟩
 obtain ⟨L, hL⟩ : ∃ L, N % 18446744073709551616 = L := ⟨_, rfl⟩
 rw [hH, hL] at M0'
 have M := Lib.hid M0'
 have i1 : (H : Int) ≤ 18446744073709551615 := by omega
 have i2 : (L : Int) ≤ 18446744073709551615 := by omega
 have i3 : (N0 : Int) ≤ 4611686018427387904 := by omega
 have HN := Lib.hid hN84
 have HH := Lib.hid (And.intro hH hL)
 clear M0' hN hN84 a2 h0 h0' hH hL
 go_enter Tryz.func118, Tryz.ntmps118
 go_wp2_with fail
 refine (kn_any ⟨ok, (N0 : Int)⟩ _).mono ?_; rintro e w1 ⟨rfl, hg⟩; obtain ⟨hc, hf⟩ := hg.cells; have hz := hg.size; (try simp at hz); have z0 : w.heap.size < w1.heap.size := (by omega); have z1 : w.heap.size + 1 < w1.heap.size := (by omega)
 go_wp2_with fail
 refine (M.out _).mono ?_; rintro e w1' ⟨rfl, rfl⟩
 clear M
 go_wp2
 have q0 : w1.cell? ⟨w.heap.size + 1, 0, none⟩ = some (.bool false) := by go_simp
 have q1 : w1.cell? ⟨w.heap.size + 1, 1, none⟩ = some (.int .i64 0) := by go_simp
 have f0 : w1.frozen? ⟨w.heap.size + 1, 0, none⟩ = false := by go_simp
 have f1 : w1.frozen? ⟨w.heap.size + 1, 1, none⟩ = false := by go_simp
 have hgw : Gr w w1 := (by repeat (first | exact Gr.refl _ | refine Gr.alloc ?_ _ | refine Gr.drew ?_ | refine Gr.setCell ?_ (by first | (simp; done) | (simp; omega) | omega) _ | refine Gr.trans ?_ (by assumption)))
 clear hc hf hg
 go_loop [5, 6] (fun tn tb => ∃ k n b : Nat, tn = .int .u64 n ∧ tb = .int .u64 b ∧ Hid (b = 2 ^ k / 2) ∧ k ≤ 43 ∧ Hid (Rt N k n)) (fun _ tb => (intOf tb).toNat)
 case atStart => exact ⟨43, 0, 4398046511104, rfl, rfl, (show 4398046511104 = 2 ^ 43 / 2 by decide), Nat.le_refl _, Rt.start43 HN.out⟩
 case round =>
  obtain ⟨k, n, b, rfl, rfl, hb, hk, hrt⟩ := hrel
  rcases Nat.eq_zero_or_pos k with h0 | h0
  ·
   subst h0
   obtain rfl : b = 0 := hb.out
   have hn := hrt.out.hlt
   have he := hrt.out.end_
   have i4 : (n : Int) ≤ 4398046511104 := by omega
   have O := Lib.hid (of_any (n : Int))
   have HE := Lib.hid he
   clear hrt hn he
   go_wp2_with fail
   refine (O.out _).mono ?_; rintro e w2 ⟨rfl, hg2⟩
   have x0 : w2.cell? ⟨w.heap.size + 1, 0, none⟩ = some (.bool false) := (hg2.cell (p := ⟨w.heap.size + 1, 0, none⟩) z1).trans q0
   have x1 : w2.cell? ⟨w.heap.size + 1, 1, none⟩ = some (.int .i64 0) := (hg2.cell (p := ⟨w.heap.size + 1, 1, none⟩) z1).trans q1
   have y0 : w2.frozen? ⟨w.heap.size + 1, 0, none⟩ = false := (hg2.frozen (p := ⟨w.heap.size + 1, 0, none⟩) z1).trans f0
   have y1 : w2.frozen? ⟨w.heap.size + 1, 1, none⟩ = false := (hg2.frozen (p := ⟨w.heap.size + 1, 1, none⟩) z1).trans f1
   go_wp2
   exact bodyPost_ret (v := .agg #[.bool (ofV (n : Int)).ok, .int .i64 (ofV (n : Int)).n]) (by simp [results, Tryz.results118, go_sem, *]) rfl ⟨by rw [← HE.out], (by repeat (first | exact hgw | refine Gr.setCell ?_ (by simp) _ | refine Gr.trans ?_ (by assumption)))⟩
  ·
   obtain ⟨j, rfl⟩ : ∃ j, k = j + 1 := ⟨k - 1, by omega⟩
   have hbj : b = 2 ^ j := by rw [hb.out, Nat.pow_succ]; omega
   have hb1 : (1 : Int) ≤ (b : Int) := by have : 0 < 2 ^ j := Nat.pow_pos (by omega); omega
   obtain ⟨b', hb'⟩ : ∃ b', b' = 2 ^ j / 2 := ⟨_, rfl⟩
   have e0 : (b : Int) / 2 = (b' : Int) := by omega
   have hbl : b ≤ 4398046511104 := by
    rw [hbj]; exact Nat.le_trans (Nat.pow_le_pow_right (by omega) (show j ≤ 42 by omega)) (by decide)
   have eO : bits .or .u64 (n : Int) (b : Int) = ((n + b : Nat) : Int) := by
    have := or_pow (k := j) hrt.out.hd (by have := hrt.out.hlt; rw [← hbj]; omega)
    rw [← hbj] at this; exact this
   obtain ⟨x, hx⟩ : ∃ x, x = n + b := ⟨_, rfl⟩
   rw [← hx] at eO
   have hxl : x ≤ 8796093022208 := by have := hrt.out.hlt; omega
   have M2' := mul64_any x x (by omega) (by omega)
   have hD := dbl_le (X := x * x) HH.out.1 HH.out.2
   have hXX : x * x ≤ 8796093022208 * 8796093022208 := Nat.mul_le_mul hxl hxl
   obtain ⟨h2, hh2⟩ : ∃ h2, x * x / 18446744073709551616 = h2 := ⟨_, rfl⟩
   obtain ⟨l2, hl2⟩ : ∃ l2, x * x % 18446744073709551616 = l2 := ⟨_, rfl⟩
   rw [hh2, hl2] at M2' hD
   have M2 := Lib.hid M2'
   have i5 : (h2 : Int) ≤ 18446744073709551615 := by omega
   have i6 : (l2 : Int) ≤ 18446744073709551615 := by omega
   have HD := Lib.hid hD
   have HX := Lib.hid (show x = n + 2 ^ j by omega)
   clear M2' hD hXX hh2 hl2 hxl hbl hx
   have Hb' := Lib.hid hb'
   clear hb hbj hb' h0
   by_cases c1 : (h2 : Int) < (H : Int)
   ·
    have hy : (n + 2 ^ j) * (n + 2 ^ j) ≤ N := by rw [← HX.out]; exact HD.out.2 (Or.inl (by omega))
    have RT := Lib.hid (hrt.out.yes (by
     have h1 : 2 ^ j * 2 ^ j ≤ (n + 2 ^ j) * (n + 2 ^ j) := Nat.mul_le_mul (by omega) (by omega)
     rcases Nat.lt_or_ge j 42 with hj | hj
     ·
      exact hj
     ·
      have h3 : 2 ^ 84 ≤ 2 ^ j * 2 ^ j := by rw [← Nat.pow_add]; exact Nat.pow_le_pow_right (by omega) (by omega)
      have := HN.out; omega) hy)
    rw [← HX.out] at RT
    clear hy
    go_wp2_with fail
    refine (M2.out _).mono ?_; rintro e w1' ⟨rfl, rfl⟩
    go_wp2
    go_round
    case rel => exact ⟨j, x, b', rfl, rfl, Hb'.out, by omega, RT.out⟩
    case measure => simp [intOf]; omega
   by_cases c2 : h2 = H
   ·
    by_cases c3 : (l2 : Int) ≤ (L : Int)
    ·
     have hy : (n + 2 ^ j) * (n + 2 ^ j) ≤ N := by rw [← HX.out]; exact HD.out.2 (Or.inr ⟨c2, by omega⟩)
     have RT := Lib.hid (hrt.out.yes (by
      have h1 : 2 ^ j * 2 ^ j ≤ (n + 2 ^ j) * (n + 2 ^ j) := Nat.mul_le_mul (by omega) (by omega)
      rcases Nat.lt_or_ge j 42 with hj | hj
      ·
       exact hj
      ·
       have h3 : 2 ^ 84 ≤ 2 ^ j * 2 ^ j := by rw [← Nat.pow_add]; exact Nat.pow_le_pow_right (by omega) (by omega)
       have := HN.out; omega) hy)
     rw [← HX.out] at RT
     clear hy
     have c2' : ((h2 : Int) == (H : Int)) = true := by simp [c2]
     have c2n : (h2 == H) = true := by simp [c2]
     clear c2
     go_wp2_with fail
     refine (M2.out _).mono ?_; rintro e w1' ⟨rfl, rfl⟩
     go_wp2
     go_round
     case rel => exact ⟨j, x, b', rfl, rfl, Hb'.out, by omega, RT.out⟩
     case measure => simp [intOf]; omega
    ·
     have hy : ¬ (n + 2 ^ j) * (n + 2 ^ j) ≤ N := by rw [← HX.out]; intro h; have := HD.out.1 h; omega
     have RT := Lib.hid (hrt.out.no hy)
     clear hy
     have c2' : ((h2 : Int) == (H : Int)) = true := by simp [c2]
     have c2n : (h2 == H) = true := by simp [c2]
     clear c2
     go_wp2_with fail
     refine (M2.out _).mono ?_; rintro e w1' ⟨rfl, rfl⟩
     go_wp2
     go_round
     case rel => exact ⟨j, n, b', rfl, rfl, Hb'.out, by omega, RT.out⟩
     case measure => simp [intOf]; omega
   ·
    have hy : ¬ (n + 2 ^ j) * (n + 2 ^ j) ≤ N := by rw [← HX.out]; intro h; have := HD.out.1 h; omega
    have RT := Lib.hid (hrt.out.no hy)
    clear hy
    have c2' : ((h2 : Int) == (H : Int)) = false := by simp; omega
    have c2n : (h2 == H) = false := by simp [c2]
    clear c2
    go_wp2_with fail
    refine (M2.out _).mono ?_; rintro e w1' ⟨rfl, rfl⟩
    go_wp2
    go_round
    case rel => exact ⟨j, n, b', rfl, rfl, Hb'.out, by omega, RT.out⟩
    case measure => simp [intOf]; omega
end Go.Proofs.YtbdichmkgcngbaaGreat
namespace Go.Proofs.YtbdichmkgcngbaaGreat
open Go.RowKit
set_option linter.unusedVariables false
set_option linter.unusedSimpArgs false

theorem sqL_len (l : List Vl) : (sqL l).length = (kn l).length := List.length_map _
theorem map_at {f : Vl → Vl} {K S : List Vl} (h : S = K.map f) {k : Nat} (hk : k < K.length) (hs : k < S.length) : S[k] = f K[k] := by
 subst h; exact List.getElem_map f
theorem bif_no {b : Bool} {x y : Vl} (h : b = false) : (bif b then x else y) = y := by rw [h]; rfl
theorem bif_yes {b : Bool} {x y : Vl} (h : b = true) : (bif b then x else y) = x := by rw [h]; rfl
theorem all_not {l : List Vl} {k : Nat} (h : k < l.length) (hn : (l[k]).ok = false) : l.all (·.ok) = false := by
 cases hq : l.all (·.ok)
 ·
  rfl
 ·
  rw [List.all_eq_true.1 hq _ (List.getElem_mem h)] at hn; cases hn
theorem dev_no {l : List Vl} {k : Nat} (h : k < (sqL l).length) (hn : ((sqL l)[k]).ok = false) : devV l = ⟨false, 0⟩ := bif_no (all_not h hn)
theorem dev_yes {l : List Vl} (h : (sqL l).all (·.ok) = true) : devV l = sqrtV (aggV 1 (sqL l)) := bif_yes h
theorem allok_take {l : List Vl} {k : Nat} (h : k < l.length) : (l.take (k + 1)).all (·.ok) = ((l.take k).all (·.ok) && l[k].ok) := by
 rw [List.take_succ_eq_append_getElem h, List.all_append]; simp

set_option maxRecDepth 100000 in
set_option maxHeartbeats 3200000 in
theorem dev_any (A : Option Addr) (c : Nat) (l : List Vl) (w : World) (hl : l.length ≤ 1000000) (hr : Rv w A l) :
  Calls Tryz.prog 94 #[.slice A l.length c] w fun e w' => e = .returned (.agg #[.bool (devV l).ok, .int .i64 (devV l).n]) ∧ Gr w w' := by
 obtain ⟨i0, hi, hz0, hz1, hz2⟩ := info_parts info_val
 have hkl := kn_len l
 go_enter Tryz.func94, Tryz.ntmps94
 go_wp2_with fail
 refine (known_vals_any A c l _ hl ?hr).mono ?_
 case hr => exact hr.gr (by repeat (first | exact Gr.refl _ | refine Gr.alloc ?_ _ | refine Gr.drew ?_ | refine Gr.setCell ?_ (by first | (simp; done) | (simp; omega) | omega) _ | refine Gr.trans ?_ (by assumption)))
 rintro e w1 ⟨A1, c1, rfl, hr1, hg1⟩
 have z1 := hg1.size
 simp at z1
 have z0 : w.heap.size < w1.heap.size := by omega
 have p0 : w1.cell? ⟨w.heap.size, 0, none⟩ = some (.bool false) := (hg1.cell (p := ⟨w.heap.size, 0, none⟩) (by simp)).trans (by go_simp)
 have p1 : w1.cell? ⟨w.heap.size, 1, none⟩ = some (.int .i64 0) := (hg1.cell (p := ⟨w.heap.size, 1, none⟩) (by simp)).trans (by go_simp)
 have f0 : w1.frozen? ⟨w.heap.size, 0, none⟩ = false := (hg1.frozen (p := ⟨w.heap.size, 0, none⟩) (by simp)).trans (by go_simp)
 have f1 : w1.frozen? ⟨w.heap.size, 1, none⟩ = false := (hg1.frozen (p := ⟨w.heap.size, 1, none⟩) (by simp)).trans (by go_simp)
 have hgw1 : Gr w w1 := (by repeat (first | exact Gr.refl _ | refine Gr.alloc ?_ _ | refine Gr.drew ?_ | refine Gr.setCell ?_ (by first | (simp; done) | (simp; omega) | omega) _ | refine Gr.trans ?_ (by assumption)))
 clear hg1 z1
 go_wp2_with fail
 refine (agg_of_any 1 A1 c1 (kn l) _ (by omega) hr1).mono ?_
 rintro e w2 ⟨rfl, hg2⟩
 obtain ⟨M, hM⟩ : ∃ M, aggV 1 (kn l) = M := ⟨_, rfl⟩
 have HSQ : Hid (sqL l = (kn l).map (sqF M)) := Lib.hid (by rw [← hM]; rfl)
 rw [hM]
 clear hM
 replace p0 := (hg2.cell (p := ⟨w.heap.size, 0, none⟩) z0).trans p0
 replace p1 := (hg2.cell (p := ⟨w.heap.size, 1, none⟩) z0).trans p1
 replace f0 := (hg2.frozen (p := ⟨w.heap.size, 0, none⟩) z0).trans f0
 replace f1 := (hg2.frozen (p := ⟨w.heap.size, 1, none⟩) z0).trans f1
 have z2 : w.heap.size < w2.heap.size := Nat.lt_of_lt_of_le z0 hg2.size
 have hr2 := hr1.gr hg2
 have hgw2 := Gr.trans hgw1 hg2
 obtain ⟨K, hK⟩ : ∃ K, kn l = K := ⟨_, rfl⟩
 obtain ⟨SQ, hSQ⟩ : ∃ SQ, sqL l = SQ := ⟨_, rfl⟩
 have hlen : SQ.length = K.length := by rw [← hK, ← hSQ]; exact sqL_len l
 have hK6 : K.length ≤ 1000000 := by rw [← hK]; omega
 have HQ : Hid (∀ k (h : k < K.length) (h' : k < SQ.length), SQ[k] = mulV (subV K[k] M) (subV K[k] M)) := Lib.hid (fun k h h' => by subst hK hSQ; exact map_at HSQ.out h h')
 have HN : Hid (∀ k (h : k < SQ.length), (SQ[k]).ok = false → devV l = ⟨false, 0⟩) := Lib.hid (fun k h h' => by subst hSQ; exact dev_no h h')
 have HY : Hid (SQ.all (·.ok) = true → devV l = sqrtV (aggV 1 SQ)) := Lib.hid (fun h => by subst hSQ; exact dev_yes h)
 rw [hK] at hr2 ⊢
 have HL := Lib.hid hlen
 clear hr1 hr HSQ hg2 hgw1 hkl hlen hK hSQ z0 hl
 go_wp2
 have m0 : (w2.alloc (.cells #[.bool M.ok, .int .i64 M.n] 23)).cell? ⟨w2.heap.size, 0, none⟩ = some (.bool M.ok) := by go_simp
 have m1 : (w2.alloc (.cells #[.bool M.ok, .int .i64 M.n] 23)).cell? ⟨w2.heap.size, 1, none⟩ = some (.int .i64 M.n) := by go_simp
 have zm : w2.heap.size < (w2.alloc (.cells #[.bool M.ok, .int .i64 M.n] 23)).heap.size := by simp
 have gm : Gr w2 (w2.alloc (.cells #[.bool M.ok, .int .i64 M.n] 23)) := (by repeat (first | exact Gr.refl _ | refine Gr.alloc ?_ _ | refine Gr.drew ?_ | refine Gr.setCell ?_ (by first | (simp; done) | (simp; omega) | omega) _ | refine Gr.trans ?_ (by assumption)))
 replace p0 := (gm.cell (p := ⟨w.heap.size, 0, none⟩) z2).trans p0
 replace p1 := (gm.cell (p := ⟨w.heap.size, 1, none⟩) z2).trans p1
 replace f0 := (gm.frozen (p := ⟨w.heap.size, 0, none⟩) z2).trans f0
 replace f1 := (gm.frozen (p := ⟨w.heap.size, 1, none⟩) z2).trans f1
 have hr3 := hr2.gr gm
 have hgw3 := Gr.trans hgw2 gm
 have z3 := Nat.lt_of_lt_of_le z2 gm.size
 clear hr2 hgw2 gm z2
 generalize (w2.alloc (.cells #[.bool M.ok, .int .i64 M.n] 23)) = W0 at m0 m1 zm p0 p1 f0 f1 hr3 hgw3 z3 ⊢
 generalize w2.heap.size = Bm at m0 m1 zm ⊢
 have HP := Lib.hid (And.intro (And.intro p0 p1) (And.intro f0 f1))
 have HM := Lib.hid (And.intro m0 m1)
 clear p0 p1 f0 f1 m0 m1
 go_loopw [5, 16] (fun v i wr => ∃ k : Nat, k ≤ K.length ∧ i = .int .i64 k ∧ Gr W0 wr ∧ wr.ownsRow W0.heap.size 23 2 v k (vcells (SQ.take k)) ∧ Hid ((SQ.take k).all (·.ok) = true)) (fun _ i _ => K.length - (intOf i).toNat)
 case atStart => exact ⟨0, Nat.zero_le _, rfl, Gr.refl _, World.ownsRow_nil _ _ _ _, Lib.hid rfl⟩
 case round =>
  obtain ⟨k, hk, rfl, hgr, hown, hall⟩ := hrel
  have m0 := (hgr.cell (p := ⟨Bm, 0, none⟩) zm).trans HM.out.1
  have m1 := (hgr.cell (p := ⟨Bm, 1, none⟩) zm).trans HM.out.2
  have zr := hgr.size
  have zB : Bm < wr.heap.size := by omega
  by_cases hlt : k < K.length
  ·
   have hlt' : k < SQ.length := by rw [HL.out]; exact hlt
   obtain ⟨ad, rfl, hb, hx0, hx1⟩ := (hr3.gr hgr).at hlt
   have Hq := Lib.hid (HQ.out k hlt hlt')
   have Hn := Lib.hid (HN.out k hlt')
   have Ht := Lib.hid (allok_take hlt')
   have Hs := Lib.hid (List.take_succ_eq_append_getElem hlt')
   generalize K[k] = v at hx0 hx1 Hq
   go_wp2_with fail
   refine (sub_any v M _).mono ?_; rintro e w3 ⟨rfl, hg3⟩
   have g3 : Gr wr w3 := (by repeat (first | exact Gr.refl _ | refine Gr.alloc ?_ _ | refine Gr.drew ?_ | refine Gr.setCell ?_ (by first | (simp; done) | (simp; omega) | omega) _ | refine Gr.trans ?_ (by assumption)))
   have hown3 := own_gr hown g3
   clear hg3 m0 m1 hx0 hx1
   generalize subV v M = d at Hq ⊢
   go_wp2_with fail
   refine (mul_any d d _).mono ?_; rintro e w4 ⟨rfl, hg4⟩
   have g4 : Gr w3 w4 := (by repeat (first | exact Gr.refl _ | refine Gr.alloc ?_ _ | refine Gr.drew ?_ | refine Gr.setCell ?_ (by first | (simp; done) | (simp; omega) | omega) _ | refine Gr.trans ?_ (by assumption)))
   have g5 := Gr.trans (Gr.trans hgr g3) g4
   have hown4 := own_gr hown3 g4
   clear hg4 g3 g4 hown hown3 hgr
   generalize SQ[k] = q0 at Hq Hn Ht Hs
   obtain ⟨q, hq⟩ : ∃ q, mulV d d = q := ⟨_, rfl⟩
   have Hqq : Hid (q0 = q) := Lib.hid (Hq.out.trans hq)
   rw [hq]
   clear hq Hq
   obtain ⟨qo, qn⟩ := q
   obtain rfl := Hqq.out
   clear Hqq
   cases qo
   case false =>
    have HV := Lib.hid (Hn.out rfl)
    have p0 := (g5.cell (p := ⟨w.heap.size, 0, none⟩) z3).trans HP.out.1.1
    have p1 := (g5.cell (p := ⟨w.heap.size, 1, none⟩) z3).trans HP.out.1.2
    have f0 := (g5.frozen (p := ⟨w.heap.size, 0, none⟩) z3).trans HP.out.2.1
    have f1 := (g5.frozen (p := ⟨w.heap.size, 1, none⟩) z3).trans HP.out.2.2
    have z4 := Nat.lt_of_lt_of_le z3 g5.size
    have gw := Gr.trans hgw3 g5
    clear hown4 g5
    go_wp2
    exact bodyPost_ret (v := .agg #[.bool false, .int .i64 0]) (by simp [results, Tryz.results94, go_sem, *]) rfl ⟨by rw [HV.out], (by repeat (first | exact Gr.refl _ | refine Gr.alloc ?_ _ | refine Gr.drew ?_ | refine Gr.setCell ?_ (by first | (simp; done) | (simp; omega) | omega) _ | refine Gr.trans ?_ (by assumption)))⟩
   case true =>
    have z5 := g5.size
    have hrx : Rv ((w4.alloc (.cells (vcells [⟨true, qn⟩]).toArray 23)).alloc (.cells (vcells [⟨true, qn⟩]).toArray 23)) (some ⟨w4.heap.size + 1, 0, none⟩) [⟨true, qn⟩] := Rv.new (by simp) 23 [⟨true, qn⟩]
    have hv0 := (hown4.alloc (.cells (vcells [⟨true, qn⟩]).toArray 23)).alloc (.cells (vcells [⟨true, qn⟩]).toArray 23)
    have hvl := (hown4.alloc (.cells (vcells [⟨true, qn⟩]).toArray 23)).lt
    have g6 : Gr W0 (w4.alloc (.cells (vcells [⟨true, qn⟩]).toArray 23)) := (by repeat (first | exact Gr.refl _ | refine Gr.alloc ?_ _ | refine Gr.drew ?_ | refine Gr.setCell ?_ (by first | (simp; done) | (simp; omega) | omega) _ | refine Gr.trans ?_ (by assumption)))
    go_wp2_with (at_builtin; go_loud (refine wpList_append_rd rfl (.tmp 30) (.tmp 32) 28 rfl W0.heap.size 23 i0 _ 2 16 Tryz.underlying28 hi hz0 hz1 hz2 rfl (by decide) _ _ _ rfl hv0 (some ⟨w4.heap.size + 1, 0, none⟩) 1 _ (vcells [⟨true, qn⟩]) rfl hrx (vcells_one _) (by unfold maxLen; omega) (by omega) (by simp; omega) ?_; intro v' w6 hown6 hgr6 hat6))
    have hg6 : Gr W0 w6 := Gr.grown (Gr.alloc g6 _) hgr6 (fun k hk => (hvl k hk).1)
    clear hv0 hvl hgr6 hat6 hrx g6
    go_wp2
    go_roundw
    case rel => exact ⟨k + 1, by omega, by go_num, hg6, by rw [Hs.out, vcells_append]; exact hown6, Lib.hid (by rw [Ht.out, hall.out]; rfl)⟩
    case measure => simp [intOf]; omega
  ·
   have hkk : k = K.length := by omega
   subst hkk
   have hT : SQ.take K.length = SQ := by rw [← HL.out, List.take_length]
   rw [hT] at hown hall
   obtain ⟨A', c', hv⟩ := own_form hown
   subst hv
   have hrs : Rv wr A' SQ := by have h := Rd.own hown; unfold Rv; rw [HL.out]; exact h
   have HV := Lib.hid (HY.out hall.out)
   have QA := agg_of_any 1 A' c' SQ
   rw [HL.out] at QA
   have QA := Lib.hid (QA wr hK6 hrs)
   clear hT hown m0 m1 hrs
   go_wp2_with fail
   refine QA.out.mono ?_; rintro e w5 ⟨rfl, hg5⟩
   generalize aggV 1 SQ = V at HV ⊢
   go_wp2_with fail
   refine (sqrt_any V _).mono ?_; rintro e w6 ⟨rfl, hg6⟩
   generalize sqrtV V = x at HV ⊢
   have g5 := Gr.trans (Gr.trans hgr hg5) hg6
   have p0 := (g5.cell (p := ⟨w.heap.size, 0, none⟩) z3).trans HP.out.1.1
   have p1 := (g5.cell (p := ⟨w.heap.size, 1, none⟩) z3).trans HP.out.1.2
   have f0 := (g5.frozen (p := ⟨w.heap.size, 0, none⟩) z3).trans HP.out.2.1
   have f1 := (g5.frozen (p := ⟨w.heap.size, 1, none⟩) z3).trans HP.out.2.2
   have z4 := Nat.lt_of_lt_of_le z3 g5.size
   have gw := Gr.trans hgw3 g5
   clear hg5 hg6 g5 hgr QA
   go_wp2
   exact bodyPost_ret (v := .agg #[.bool x.ok, .int .i64 x.n]) (by simp [results, Tryz.results94, go_sem, *]) rfl ⟨by rw [HV.out], (by repeat (first | exact Gr.refl _ | refine Gr.alloc ?_ _ | refine Gr.drew ?_ | refine Gr.setCell ?_ (by first | (simp; done) | (simp; omega) | omega) _ | refine Gr.trans ?_ (by assumption)))⟩
end Go.Proofs.YtbdichmkgcngbaaGreat
