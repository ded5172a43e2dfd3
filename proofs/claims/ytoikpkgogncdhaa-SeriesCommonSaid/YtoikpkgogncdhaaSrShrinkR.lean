/- The contracts of the reference's Fit (whole) and Shrink. -/
import Derived.Test.YtoikpkgogncdhaaSrFitR
import Derived.Test.YtoikpkgogncdhaaSrFitRN
import Derived.Test.YtoikpkgogncdhaaSrShrink
namespace Go.Proofs.Ytoikpkgogncdhaa
set_option linter.unusedVariables false
set_option linter.unusedSimpArgs false
open Go.RowKit

theorem rfit_any (s : Sr) (A : Option Addr) (c : Nat) (start step n : Int) (w : World) (hl : s.vals.length ≤ 1000000) (hr : Rv w A s.vals) :
    Calls Try.prog 14 #[.agg #[.string s.name, .int .i64 s.start, .int .i64 s.step, .slice A s.vals.length c, .int .i64 s.cons], .int .i64 start, .int .i64 step, .int .i64 n] w (RetS (fitS s start step n) w) := by
  cases hb : fitOk s start step n
  · exact rfit_bad s A c start step n w hl hr hb
  · have h := hb
    unfold fitOk at h
    simp only [Bool.and_eq_true, decide_eq_true_eq] at h
    obtain ⟨ho, a1, a2, a3, a4, a5, a6⟩ := h
    have e : fitS s start step n = ⟨s.name, start, step, fitL s start step n.toNat, s.cons⟩ := by unfold fitS; rw [if_pos hb]
    have hn : ((n.toNat : Nat) : Int) = n := Int.toNat_of_nonneg a3
    have h := rfit_good s A c start step n.toNat w hr ((isS_iff s).1 ho) a1 a2 (by omega) a5 a6
    rw [hn] at h
    rw [e]
    exact h

theorem retS_of {T0 T : Sr} {w w' : World} {e : Ending} (h : T0 = T) (hr : RetS T w e w') : RetS T0 w e w' := by rw [h]; exact hr
/-- which is the least number of which so many are not too many. -/
theorem least {n most k K : Int} (hn : 0 ≤ n) (hm : 1 ≤ most) (hk : 1 ≤ k) (hK : K = upI n most) : upI n k ≤ most ↔ K ≤ k := by
  subst hK
  obtain ⟨u0, u1, u2⟩ := upI_facts hn hm
  obtain ⟨v0, v1, v2⟩ := upI_facts hn hk
  constructor
  · intro h
    rcases Int.lt_or_le k (upI n most) with hlt | hge
    · exfalso
      have h1 : upI n k * k ≤ most * k := Int.mul_le_mul_of_nonneg_right h (by omega)
      have h2 : (k + 1) * most ≤ upI n most * most := Int.mul_le_mul_of_nonneg_right (by omega) (by omega)
      rw [Int.add_mul, Int.mul_comm k most] at h2
      omega
    · exact hge
  · intro h
    rcases Int.lt_or_le most (upI n k) with hlt | hge
    · exfalso
      have h1 : upI n most * most ≤ k * most := Int.mul_le_mul_of_nonneg_right h (by omega)
      have h2 : (most + 1) * k ≤ upI n k * k := Int.mul_le_mul_of_nonneg_right (by omega) (by omega)
      rw [Int.add_mul, Int.mul_comm most k] at h2
      omega
    · exact hge

set_option maxRecDepth 100000 in
set_option maxHeartbeats 3200000 in
theorem rshrink_any (s : Sr) (A : Option Addr) (c : Nat) (most : Int) (w : World) (hl : s.vals.length ≤ 1000000) (hr : Rv w A s.vals) :
    Calls Try.prog 17 #[.agg #[.string s.name, .int .i64 s.start, .int .i64 s.step, .slice A s.vals.length c, .int .i64 s.cons], .int .i64 most] w (RetS (shrinkS s most) w) := by
  have hl1 : (s.vals.length : Int) ≤ 1000000 := by omega
  have Q := fun w hr => rsis_any s A c w hr
  cases hi : isS s
  case false =>
    have hS : shrinkS s most = s := by unfold shrinkS shrinkOk; simp [hi]
    simp only [hi] at Q
    rw [hS]
    clear hS
    go_enter Try.func17, Try.ntmps17
    go_wp2_with fail
    refine (Q _ ?hr).mono ?_
    case hr => exact hr.gr (by repeat (first | exact Gr.refl _ | refine Gr.alloc ?_ _ | refine Gr.drew ?_ | refine Gr.setCell ?_ (by first | (simp; done) | (simp; omega) | omega) _ | refine Gr.trans ?_ (by assumption)))
    rintro e w1 ⟨rfl, hg⟩
    have z1 := hg.size
    simp at z1
    have z0 : w.heap.size < w1.heap.size := by omega
    have z2 : w.heap.size + 1 < w1.heap.size := by omega
    obtain ⟨hc, hf⟩ := hg.cells
    have q0 : w1.cell? ⟨w.heap.size, 0, none⟩ = some (.string s.name) := by go_simp
    have q1 : w1.cell? ⟨w.heap.size, 1, none⟩ = some (.int .i64 s.start) := by go_simp
    have q2 : w1.cell? ⟨w.heap.size, 2, none⟩ = some (.int .i64 s.step) := by go_simp
    have q3 : w1.cell? ⟨w.heap.size, 3, none⟩ = some (.slice A s.vals.length c) := by go_simp
    have q4 : w1.cell? ⟨w.heap.size, 4, none⟩ = some (.int .i64 s.cons) := by go_simp
    have p0 : w1.cell? ⟨w.heap.size + 1, 0, none⟩ = some (.string ⟨#[]⟩) := by go_simp
    have g0 : w1.frozen? ⟨w.heap.size + 1, 0, none⟩ = false := by go_simp
    have p1 : w1.cell? ⟨w.heap.size + 1, 1, none⟩ = some (.int .i64 0) := by go_simp
    have g1 : w1.frozen? ⟨w.heap.size + 1, 1, none⟩ = false := by go_simp
    have p2 : w1.cell? ⟨w.heap.size + 1, 2, none⟩ = some (.int .i64 0) := by go_simp
    have g2 : w1.frozen? ⟨w.heap.size + 1, 2, none⟩ = false := by go_simp
    have p3 : w1.cell? ⟨w.heap.size + 1, 3, none⟩ = some (.slice none 0 0) := by go_simp
    have g3 : w1.frozen? ⟨w.heap.size + 1, 3, none⟩ = false := by go_simp
    have p4 : w1.cell? ⟨w.heap.size + 1, 4, none⟩ = some (.int .i64 0) := by go_simp
    have g4 : w1.frozen? ⟨w.heap.size + 1, 4, none⟩ = false := by go_simp
    have hgw : Gr w w1 := (by repeat (first | exact Gr.refl _ | refine Gr.alloc ?_ _ | refine Gr.drew ?_ | refine Gr.setCell ?_ (by first | (simp; done) | (simp; omega) | omega) _ | refine Gr.trans ?_ (by assumption)))
    clear hc hf hg Q
    go_wp2_with fail
    refine (rown_any s A c _ hl (hr.gr hgw)).mono ?_
    rintro e w2 ⟨A', c', rfl, hrv, hg, hnew⟩
    have hgw2 := Gr.trans hgw hg
    replace p0 := (hg.cell (p := ⟨w.heap.size + 1, 0, none⟩) z2).trans p0
    replace g0 := (hg.frozen (p := ⟨w.heap.size + 1, 0, none⟩) z2).trans g0
    replace p1 := (hg.cell (p := ⟨w.heap.size + 1, 1, none⟩) z2).trans p1
    replace g1 := (hg.frozen (p := ⟨w.heap.size + 1, 1, none⟩) z2).trans g1
    replace p2 := (hg.cell (p := ⟨w.heap.size + 1, 2, none⟩) z2).trans p2
    replace g2 := (hg.frozen (p := ⟨w.heap.size + 1, 2, none⟩) z2).trans g2
    replace p3 := (hg.cell (p := ⟨w.heap.size + 1, 3, none⟩) z2).trans p3
    replace g3 := (hg.frozen (p := ⟨w.heap.size + 1, 3, none⟩) z2).trans g3
    replace p4 := (hg.cell (p := ⟨w.heap.size + 1, 4, none⟩) z2).trans p4
    replace g4 := (hg.frozen (p := ⟨w.heap.size + 1, 4, none⟩) z2).trans g4
    have y2 : w.heap.size + 1 < w2.heap.size := Nat.lt_of_lt_of_le z2 hg.size
    have hn1 : ∀ ad, A' = some ad → w.heap.size + 1 < ad.block := fun ad h => by have := hnew ad h; omega
    clear hg hnew q0 q1 q2 q3 q4
    go_wp2
    refine bodyPost_ret (v := .agg #[.string s.name, .int .i64 s.start, .int .i64 s.step, .slice A' s.vals.length c', .int .i64 s.cons]) (by simp [results, Try.results17, go_sem, *]) rfl ⟨A', c', rfl, ?_, ?_, ?_⟩
    · exact (Rv.set (Rv.set (Rv.set (Rv.set (Rv.set hrv _ _ hn1) _ _ hn1) _ _ hn1) _ _ hn1) _ _ hn1)
    · exact (Gr.setCell (Gr.setCell (Gr.setCell (Gr.setCell (Gr.setCell hgw2 (Nat.le_succ _) _) (Nat.le_succ _) _) (Nat.le_succ _) _) (Nat.le_succ _) _) (Nat.le_succ _) _)
    · exact fun ad h => by have := hn1 ad h; omega
  simp only [hi] at Q
  by_cases h1 : 1 ≤ most
  case neg =>
    have hS : shrinkS s most = s := by unfold shrinkS shrinkOk; simp [hi, h1]
    rw [hS]
    clear hS
    go_enter Try.func17, Try.ntmps17
    go_wp2_with fail
    refine (Q _ ?hr).mono ?_
    case hr => exact hr.gr (by repeat (first | exact Gr.refl _ | refine Gr.alloc ?_ _ | refine Gr.drew ?_ | refine Gr.setCell ?_ (by first | (simp; done) | (simp; omega) | omega) _ | refine Gr.trans ?_ (by assumption)))
    rintro e w1 ⟨rfl, hg⟩
    have z1 := hg.size
    simp at z1
    have z0 : w.heap.size < w1.heap.size := by omega
    have z2 : w.heap.size + 1 < w1.heap.size := by omega
    obtain ⟨hc, hf⟩ := hg.cells
    have q0 : w1.cell? ⟨w.heap.size, 0, none⟩ = some (.string s.name) := by go_simp
    have q1 : w1.cell? ⟨w.heap.size, 1, none⟩ = some (.int .i64 s.start) := by go_simp
    have q2 : w1.cell? ⟨w.heap.size, 2, none⟩ = some (.int .i64 s.step) := by go_simp
    have q3 : w1.cell? ⟨w.heap.size, 3, none⟩ = some (.slice A s.vals.length c) := by go_simp
    have q4 : w1.cell? ⟨w.heap.size, 4, none⟩ = some (.int .i64 s.cons) := by go_simp
    have p0 : w1.cell? ⟨w.heap.size + 1, 0, none⟩ = some (.string ⟨#[]⟩) := by go_simp
    have g0 : w1.frozen? ⟨w.heap.size + 1, 0, none⟩ = false := by go_simp
    have p1 : w1.cell? ⟨w.heap.size + 1, 1, none⟩ = some (.int .i64 0) := by go_simp
    have g1 : w1.frozen? ⟨w.heap.size + 1, 1, none⟩ = false := by go_simp
    have p2 : w1.cell? ⟨w.heap.size + 1, 2, none⟩ = some (.int .i64 0) := by go_simp
    have g2 : w1.frozen? ⟨w.heap.size + 1, 2, none⟩ = false := by go_simp
    have p3 : w1.cell? ⟨w.heap.size + 1, 3, none⟩ = some (.slice none 0 0) := by go_simp
    have g3 : w1.frozen? ⟨w.heap.size + 1, 3, none⟩ = false := by go_simp
    have p4 : w1.cell? ⟨w.heap.size + 1, 4, none⟩ = some (.int .i64 0) := by go_simp
    have g4 : w1.frozen? ⟨w.heap.size + 1, 4, none⟩ = false := by go_simp
    have hgw : Gr w w1 := (by repeat (first | exact Gr.refl _ | refine Gr.alloc ?_ _ | refine Gr.drew ?_ | refine Gr.setCell ?_ (by first | (simp; done) | (simp; omega) | omega) _ | refine Gr.trans ?_ (by assumption)))
    clear hc hf hg Q
    go_wp2_with fail
    refine (rown_any s A c _ hl (hr.gr hgw)).mono ?_
    rintro e w2 ⟨A', c', rfl, hrv, hg, hnew⟩
    have hgw2 := Gr.trans hgw hg
    replace p0 := (hg.cell (p := ⟨w.heap.size + 1, 0, none⟩) z2).trans p0
    replace g0 := (hg.frozen (p := ⟨w.heap.size + 1, 0, none⟩) z2).trans g0
    replace p1 := (hg.cell (p := ⟨w.heap.size + 1, 1, none⟩) z2).trans p1
    replace g1 := (hg.frozen (p := ⟨w.heap.size + 1, 1, none⟩) z2).trans g1
    replace p2 := (hg.cell (p := ⟨w.heap.size + 1, 2, none⟩) z2).trans p2
    replace g2 := (hg.frozen (p := ⟨w.heap.size + 1, 2, none⟩) z2).trans g2
    replace p3 := (hg.cell (p := ⟨w.heap.size + 1, 3, none⟩) z2).trans p3
    replace g3 := (hg.frozen (p := ⟨w.heap.size + 1, 3, none⟩) z2).trans g3
    replace p4 := (hg.cell (p := ⟨w.heap.size + 1, 4, none⟩) z2).trans p4
    replace g4 := (hg.frozen (p := ⟨w.heap.size + 1, 4, none⟩) z2).trans g4
    have y2 : w.heap.size + 1 < w2.heap.size := Nat.lt_of_lt_of_le z2 hg.size
    have hn1 : ∀ ad, A' = some ad → w.heap.size + 1 < ad.block := fun ad h => by have := hnew ad h; omega
    clear hg hnew q0 q1 q2 q3 q4
    go_wp2
    refine bodyPost_ret (v := .agg #[.string s.name, .int .i64 s.start, .int .i64 s.step, .slice A' s.vals.length c', .int .i64 s.cons]) (by simp [results, Try.results17, go_sem, *]) rfl ⟨A', c', rfl, ?_, ?_, ?_⟩
    · exact (Rv.set (Rv.set (Rv.set (Rv.set (Rv.set hrv _ _ hn1) _ _ hn1) _ _ hn1) _ _ hn1) _ _ hn1)
    · exact (Gr.setCell (Gr.setCell (Gr.setCell (Gr.setCell (Gr.setCell hgw2 (Nat.le_succ _) _) (Nat.le_succ _) _) (Nat.le_succ _) _) (Nat.le_succ _) _) (Nat.le_succ _) _)
    · exact fun ad h => by have := hn1 ad h; omega
  by_cases h2 : most < (s.vals.length : Int)
  case neg =>
    have hS : shrinkS s most = s := by unfold shrinkS shrinkOk; simp [hi, h2]
    rw [hS]
    clear hS
    go_enter Try.func17, Try.ntmps17
    go_wp2_with fail
    refine (Q _ ?hr).mono ?_
    case hr => exact hr.gr (by repeat (first | exact Gr.refl _ | refine Gr.alloc ?_ _ | refine Gr.drew ?_ | refine Gr.setCell ?_ (by first | (simp; done) | (simp; omega) | omega) _ | refine Gr.trans ?_ (by assumption)))
    rintro e w1 ⟨rfl, hg⟩
    have z1 := hg.size
    simp at z1
    have z0 : w.heap.size < w1.heap.size := by omega
    have z2 : w.heap.size + 1 < w1.heap.size := by omega
    obtain ⟨hc, hf⟩ := hg.cells
    have q0 : w1.cell? ⟨w.heap.size, 0, none⟩ = some (.string s.name) := by go_simp
    have q1 : w1.cell? ⟨w.heap.size, 1, none⟩ = some (.int .i64 s.start) := by go_simp
    have q2 : w1.cell? ⟨w.heap.size, 2, none⟩ = some (.int .i64 s.step) := by go_simp
    have q3 : w1.cell? ⟨w.heap.size, 3, none⟩ = some (.slice A s.vals.length c) := by go_simp
    have q4 : w1.cell? ⟨w.heap.size, 4, none⟩ = some (.int .i64 s.cons) := by go_simp
    have p0 : w1.cell? ⟨w.heap.size + 1, 0, none⟩ = some (.string ⟨#[]⟩) := by go_simp
    have g0 : w1.frozen? ⟨w.heap.size + 1, 0, none⟩ = false := by go_simp
    have p1 : w1.cell? ⟨w.heap.size + 1, 1, none⟩ = some (.int .i64 0) := by go_simp
    have g1 : w1.frozen? ⟨w.heap.size + 1, 1, none⟩ = false := by go_simp
    have p2 : w1.cell? ⟨w.heap.size + 1, 2, none⟩ = some (.int .i64 0) := by go_simp
    have g2 : w1.frozen? ⟨w.heap.size + 1, 2, none⟩ = false := by go_simp
    have p3 : w1.cell? ⟨w.heap.size + 1, 3, none⟩ = some (.slice none 0 0) := by go_simp
    have g3 : w1.frozen? ⟨w.heap.size + 1, 3, none⟩ = false := by go_simp
    have p4 : w1.cell? ⟨w.heap.size + 1, 4, none⟩ = some (.int .i64 0) := by go_simp
    have g4 : w1.frozen? ⟨w.heap.size + 1, 4, none⟩ = false := by go_simp
    have hgw : Gr w w1 := (by repeat (first | exact Gr.refl _ | refine Gr.alloc ?_ _ | refine Gr.drew ?_ | refine Gr.setCell ?_ (by first | (simp; done) | (simp; omega) | omega) _ | refine Gr.trans ?_ (by assumption)))
    clear hc hf hg Q
    go_wp2_with fail
    refine (rown_any s A c _ hl (hr.gr hgw)).mono ?_
    rintro e w2 ⟨A', c', rfl, hrv, hg, hnew⟩
    have hgw2 := Gr.trans hgw hg
    replace p0 := (hg.cell (p := ⟨w.heap.size + 1, 0, none⟩) z2).trans p0
    replace g0 := (hg.frozen (p := ⟨w.heap.size + 1, 0, none⟩) z2).trans g0
    replace p1 := (hg.cell (p := ⟨w.heap.size + 1, 1, none⟩) z2).trans p1
    replace g1 := (hg.frozen (p := ⟨w.heap.size + 1, 1, none⟩) z2).trans g1
    replace p2 := (hg.cell (p := ⟨w.heap.size + 1, 2, none⟩) z2).trans p2
    replace g2 := (hg.frozen (p := ⟨w.heap.size + 1, 2, none⟩) z2).trans g2
    replace p3 := (hg.cell (p := ⟨w.heap.size + 1, 3, none⟩) z2).trans p3
    replace g3 := (hg.frozen (p := ⟨w.heap.size + 1, 3, none⟩) z2).trans g3
    replace p4 := (hg.cell (p := ⟨w.heap.size + 1, 4, none⟩) z2).trans p4
    replace g4 := (hg.frozen (p := ⟨w.heap.size + 1, 4, none⟩) z2).trans g4
    have y2 : w.heap.size + 1 < w2.heap.size := Nat.lt_of_lt_of_le z2 hg.size
    have hn1 : ∀ ad, A' = some ad → w.heap.size + 1 < ad.block := fun ad h => by have := hnew ad h; omega
    clear hg hnew q0 q1 q2 q3 q4
    go_wp2
    refine bodyPost_ret (v := .agg #[.string s.name, .int .i64 s.start, .int .i64 s.step, .slice A' s.vals.length c', .int .i64 s.cons]) (by simp [results, Try.results17, go_sem, *]) rfl ⟨A', c', rfl, ?_, ?_, ?_⟩
    · exact (Rv.set (Rv.set (Rv.set (Rv.set (Rv.set hrv _ _ hn1) _ _ hn1) _ _ hn1) _ _ hn1) _ _ hn1)
    · exact (Gr.setCell (Gr.setCell (Gr.setCell (Gr.setCell (Gr.setCell hgw2 (Nat.le_succ _) _) (Nat.le_succ _) _) (Nat.le_succ _) _) (Nat.le_succ _) _) (Nat.le_succ _) _)
    · exact fun ad h => by have := hn1 ad h; omega
  have ho := (isS_iff s).1 hi
  have b0 := ho.s0; have b1 := ho.s1; have b2 := ho.p0; have b3 := ho.p1; have b4 := ho.len
  have hn0 : (0 : Int) ≤ (s.vals.length : Int) := by omega
  obtain ⟨u0, u1, u2⟩ := upI_facts hn0 h1
  have hso : shrinkOk s most = true := by unfold shrinkOk; simp [hi, h1, h2]
  obtain ⟨K, hk⟩ : ∃ K, upI (s.vals.length : Int) most = K := ⟨_, rfl⟩
  have HS : Hid (shrinkS s most = if 1099511627776 / K < s.step then s else fitS s s.start (K * s.step) (upI (s.vals.length : Int) K)) := Lib.hid (by unfold shrinkS; rw [if_pos hso, hk])
  rw [hk] at u0 u1 u2
  have HKK := Lib.hid hk
  have k1 : 1 ≤ K := by
    rcases Int.lt_or_le 0 K with h | h
    · omega
    · exfalso
      have : K = 0 := by omega
      rw [this, Int.zero_mul] at u1
      omega
  have k2 : K ≤ 262144 := by
    have : K * 1 ≤ K * most := Int.mul_le_mul_of_nonneg_left h1 (by omega)
    omega
  clear hso hk ho u1 u2 hi
  go_enter Try.func17, Try.ntmps17
  go_wp2_with fail
  refine (Q _ ?hr).mono ?_
  case hr => exact hr.gr (by repeat (first | exact Gr.refl _ | refine Gr.alloc ?_ _ | refine Gr.drew ?_ | refine Gr.setCell ?_ (by first | (simp; done) | (simp; omega) | omega) _ | refine Gr.trans ?_ (by assumption)))
  rintro e w1 ⟨rfl, hg⟩
  have z1 := hg.size
  simp at z1
  have z0 : w.heap.size < w1.heap.size := by omega
  have z2 : w.heap.size + 1 < w1.heap.size := by omega
  obtain ⟨hc, hf⟩ := hg.cells
  have q0 : w1.cell? ⟨w.heap.size, 0, none⟩ = some (.string s.name) := by go_simp
  have q1 : w1.cell? ⟨w.heap.size, 1, none⟩ = some (.int .i64 s.start) := by go_simp
  have q2 : w1.cell? ⟨w.heap.size, 2, none⟩ = some (.int .i64 s.step) := by go_simp
  have q3 : w1.cell? ⟨w.heap.size, 3, none⟩ = some (.slice A s.vals.length c) := by go_simp
  have q4 : w1.cell? ⟨w.heap.size, 4, none⟩ = some (.int .i64 s.cons) := by go_simp
  have p0 : w1.cell? ⟨w.heap.size + 1, 0, none⟩ = some (.string ⟨#[]⟩) := by go_simp
  have g0 : w1.frozen? ⟨w.heap.size + 1, 0, none⟩ = false := by go_simp
  have p1 : w1.cell? ⟨w.heap.size + 1, 1, none⟩ = some (.int .i64 0) := by go_simp
  have g1 : w1.frozen? ⟨w.heap.size + 1, 1, none⟩ = false := by go_simp
  have p2 : w1.cell? ⟨w.heap.size + 1, 2, none⟩ = some (.int .i64 0) := by go_simp
  have g2 : w1.frozen? ⟨w.heap.size + 1, 2, none⟩ = false := by go_simp
  have p3 : w1.cell? ⟨w.heap.size + 1, 3, none⟩ = some (.slice none 0 0) := by go_simp
  have g3 : w1.frozen? ⟨w.heap.size + 1, 3, none⟩ = false := by go_simp
  have p4 : w1.cell? ⟨w.heap.size + 1, 4, none⟩ = some (.int .i64 0) := by go_simp
  have g4 : w1.frozen? ⟨w.heap.size + 1, 4, none⟩ = false := by go_simp
  have hgw : Gr w w1 := (by repeat (first | exact Gr.refl _ | refine Gr.alloc ?_ _ | refine Gr.drew ?_ | refine Gr.setCell ?_ (by first | (simp; done) | (simp; omega) | omega) _ | refine Gr.trans ?_ (by assumption)))
  clear hc hf hg Q
  have FBx : FB s A c w.heap.size w1 := ⟨q0, q1, q2, q3, q4, p0, p1, p2, p3, p4, g0, g1, g2, g3, g4, z2⟩
  clear q0 q1 q2 q3 q4 p0 p1 p2 p3 p4 g0 g1 g2 g3 g4 z0 z1 z2
  go_wp2
  go_loopw [6] (fun i wr => ∃ k : Int, 1 ≤ k ∧ k ≤ K ∧ i = .int .i64 k ∧ wr = w1) (fun i _ => (K - intOf i).toNat)
  case atStart => refine ⟨1, by omega, by omega, ?_⟩; first | trivial | exact ⟨rfl, rfl⟩ | simp
  case round =>
    obtain ⟨k, k1, kK, rfl, rfl⟩ := hrel
    obtain ⟨v0, v1, v2⟩ := upI_facts hn0 k1
    have hq : upI (s.vals.length : Int) k = Int.tdiv ((s.vals.length : Int) + k - 1) k := by unfold upI; rw [Int.tdiv_eq_ediv_of_nonneg (by omega)]
    have HK := Lib.hid (least hn0 h1 k1 rfl (k := k) (K := upI (s.vals.length : Int) most))
    rw [hq] at v0 v1 v2 HK
    rw [HKK.out] at HK
    have v3 : Int.tdiv ((s.vals.length : Int) + k - 1) k ≤ (s.vals.length : Int) + k - 1 := by
      rw [Int.tdiv_eq_ediv_of_nonneg (by omega)]; exact Int.ediv_le_self _ (by omega)
    have HQ := Lib.hid hq
    have hb : k ≠ 0 := by omega
    have hb' : (k == 0) = false := by simp [hb]
    clear hq v1 v2
    by_cases hm : Int.tdiv ((s.vals.length : Int) + k - 1) k ≤ most
    case neg =>
      have hkK : k + 1 ≤ K := by have := HK.out; omega
      go_wp2
      go_roundw
      case rel => exact ⟨k + 1, by omega, hkK, rfl, by first | rfl | trivial⟩
      case measure => simp [intOf]; omega
    have HE : Hid (k = K) := Lib.hid (by have := HK.out.1 hm; omega)
    have m0 : 0 ≤ k * s.step := Int.mul_nonneg (by omega) (by omega)
    have m1 : k * s.step ≤ 288230376151711744 := by
      have : k * s.step ≤ 262144 * 1099511627776 := Int.mul_le_mul (by omega) b3 (by omega) (by omega)
      omega
    have HCMP : Hid (1099511627776 / K < s.step ↔ 1099511627776 < k * s.step) := Lib.hid (by
      rw [← HE.out]
      have h : s.step ≤ 1099511627776 / k ↔ s.step * k ≤ 1099511627776 := Int.le_ediv_iff_mul_le (by omega)
      rw [Int.mul_comm s.step k] at h
      omega)
    by_cases h3 : 1099511627776 < k * s.step
    case pos =>
      have hS : Hid (shrinkS s most = s) := Lib.hid (by rw [HS.out, if_pos (HCMP.out.2 h3)])
      obtain ⟨q0, q1, q2, q3, q4, p0, p1, p2, p3, p4, g0, g1, g2, g3, g4, sz⟩ := FBx
      have z0 : w.heap.size < wr.heap.size := by omega
      have z2 := sz
      go_wp2_with fail
      refine (rown_any s A c _ hl (hr.gr hgw)).mono ?_
      rintro e w2 ⟨A', c', rfl, hrv, hg, hnew⟩
      have hgw2 := Gr.trans hgw hg
      replace p0 := (hg.cell (p := ⟨w.heap.size + 1, 0, none⟩) z2).trans p0
      replace g0 := (hg.frozen (p := ⟨w.heap.size + 1, 0, none⟩) z2).trans g0
      replace p1 := (hg.cell (p := ⟨w.heap.size + 1, 1, none⟩) z2).trans p1
      replace g1 := (hg.frozen (p := ⟨w.heap.size + 1, 1, none⟩) z2).trans g1
      replace p2 := (hg.cell (p := ⟨w.heap.size + 1, 2, none⟩) z2).trans p2
      replace g2 := (hg.frozen (p := ⟨w.heap.size + 1, 2, none⟩) z2).trans g2
      replace p3 := (hg.cell (p := ⟨w.heap.size + 1, 3, none⟩) z2).trans p3
      replace g3 := (hg.frozen (p := ⟨w.heap.size + 1, 3, none⟩) z2).trans g3
      replace p4 := (hg.cell (p := ⟨w.heap.size + 1, 4, none⟩) z2).trans p4
      replace g4 := (hg.frozen (p := ⟨w.heap.size + 1, 4, none⟩) z2).trans g4
      have y2 : w.heap.size + 1 < w2.heap.size := Nat.lt_of_lt_of_le z2 hg.size
      have hn1 : ∀ ad, A' = some ad → w.heap.size + 1 < ad.block := fun ad h => by have := hnew ad h; omega
      clear hg hnew q0 q1 q2 q3 q4
      go_wp2
      refine bodyPost_ret (v := .agg #[.string s.name, .int .i64 s.start, .int .i64 s.step, .slice A' s.vals.length c', .int .i64 s.cons]) (by simp [results, Try.results17, go_sem, *]) rfl (retS_of hS.out ⟨A', c', rfl, ?_, ?_, ?_⟩)
      · exact (Rv.set (Rv.set (Rv.set (Rv.set (Rv.set hrv _ _ hn1) _ _ hn1) _ _ hn1) _ _ hn1) _ _ hn1)
      · exact (Gr.setCell (Gr.setCell (Gr.setCell (Gr.setCell (Gr.setCell hgw2 (Nat.le_succ _) _) (Nat.le_succ _) _) (Nat.le_succ _) _) (Nat.le_succ _) _) (Nat.le_succ _) _)
      · exact fun ad h => by have := hn1 ad h; omega
    have hS : Hid (shrinkS s most = fitS s s.start (k * s.step) (Int.tdiv ((s.vals.length : Int) + k - 1) k)) := Lib.hid (by
      rw [HS.out, if_neg (fun h => h3 (HCMP.out.1 h)), ← HE.out, HQ.out])
    have w0 : IntKind.i64.wrap (k * s.step) = k * s.step := IntWalk.i64_in _ (by omega)
    have w1' : IntKind.i64.wrap ((s.vals.length : Int) + k) = (s.vals.length : Int) + k := IntWalk.i64_in _ (by omega)
    have w2' : IntKind.i64.wrap ((s.vals.length : Int) + k - 1) = (s.vals.length : Int) + k - 1 := IntWalk.i64_in _ (by omega)
    have w3' : IntKind.i64.wrap (Int.tdiv ((s.vals.length : Int) + k - 1) k) = Int.tdiv ((s.vals.length : Int) + k - 1) k := IntWalk.i64_in _ (by omega)
    obtain ⟨T, hT⟩ : ∃ T, fitS s s.start (k * s.step) (Int.tdiv ((s.vals.length : Int) + k - 1) k) = T := ⟨_, rfl⟩
    have HFT : Hid (∀ w, Rv w A s.vals → Calls Try.prog 14 #[.agg #[.string s.name, .int .i64 s.start, .int .i64 s.step, .slice A s.vals.length c, .int .i64 s.cons], .int .i64 s.start, .int .i64 (k * s.step), .int .i64 (Int.tdiv ((s.vals.length : Int) + k - 1) k)] w (RetS T w)) := Lib.hid (fun w hr => by rw [← hT]; exact rfit_any s A c s.start (k * s.step) _ w hl hr)
    rw [hT] at hS
    clear hT
    obtain ⟨q0, q1, q2, q3, q4, p0, p1, p2, p3, p4, g0, g1, g2, g3, g4, sz⟩ := id FBx
    go_wp2
    clear q0 q1 q2 q3 q4 p0 p1 p2 p3 p4 g0 g1 g2 g3 g4 sz
    have hS0 : FB s A c w.heap.size wr.drew := FBx.gr (Gr.drew (Gr.refl _))
    have gV0 : Gr w wr.drew := Gr.drew hgw
    obtain ⟨V, hV⟩ : ∃ V, V = wr.drew := ⟨_, rfl⟩
    refine wp_region_Z 14 (FB s A c w.heap.size) (by kernel_rfl) ?_
    rw [← hV] at hS0 gV0 ⊢
    clear FBx hgw hV
    refine wpAnyZ_take (i := 0) (v := ?v52) rfl (by kernel_rfl) (fun _ _ _ h => h) (by rfl) (fun W hS => ?h52) hS0 ?r52
    case h52 =>
      obtain ⟨q0, q1, q2, q3, q4, p0, p1, p2, p3, p4, g0, g1, g2, g3, g4, sz⟩ := hS
      go_simp
      rfl
    simp only [Act.put, List.setIfInBounds_toArray, List.set_cons_zero, List.set_cons_succ]
    refine wpAnyZ_take (i := 1) (v := ?v53) rfl (by kernel_rfl) (fun _ _ _ h => h) (by rfl) (fun W hS => ?h53) hS0 ?r53
    case h53 =>
      obtain ⟨q0, q1, q2, q3, q4, p0, p1, p2, p3, p4, g0, g1, g2, g3, g4, sz⟩ := hS
      go_simp
      rfl
    simp only [Act.put, List.setIfInBounds_toArray, List.set_cons_zero, List.set_cons_succ]
    refine wpAnyZ_take (i := 2) (v := ?v54) rfl (by kernel_rfl) (fun _ _ _ h => h) (by rfl) (fun W hS => ?h54) hS0 ?r54
    case h54 =>
      obtain ⟨q0, q1, q2, q3, q4, p0, p1, p2, p3, p4, g0, g1, g2, g3, g4, sz⟩ := hS
      go_simp
      rfl
    simp only [Act.put, List.setIfInBounds_toArray, List.set_cons_zero, List.set_cons_succ]
    refine wpAnyZ_take (i := 3) (v := ?v55) rfl (by kernel_rfl) (fun _ _ _ h => h) (by rfl) (fun W hS => ?h55) hS0 ?r55
    case h55 =>
      obtain ⟨q0, q1, q2, q3, q4, p0, p1, p2, p3, p4, g0, g1, g2, g3, g4, sz⟩ := hS
      go_simp
      rfl
    simp only [Act.put, List.setIfInBounds_toArray, List.set_cons_zero, List.set_cons_succ]
    refine wpAnyZ_take (i := 4) (v := ?v56) rfl (by kernel_rfl) (fun _ _ _ h => h) (by rfl) (fun W hS => ?h56) hS0 ?r56
    case h56 =>
      obtain ⟨q0, q1, q2, q3, q4, p0, p1, p2, p3, p4, g0, g1, g2, g3, g4, sz⟩ := hS
      go_simp
      rfl
    simp only [Act.put, List.setIfInBounds_toArray, List.set_cons_zero, List.set_cons_succ]
    refine wpAnyZ_take (i := 5) (v := ?v57) rfl (by kernel_rfl) (fun _ _ _ h => h) (by rfl) (fun W hS => ?h57) hS0 ?r57
    case h57 =>
      obtain ⟨q0, q1, q2, q3, q4, p0, p1, p2, p3, p4, g0, g1, g2, g3, g4, sz⟩ := hS
      go_simp
      rfl
    simp only [Act.put, List.setIfInBounds_toArray, List.set_cons_zero, List.set_cons_succ]
    refine wpAnyZ_take (i := 6) (v := ?v58) rfl (by kernel_rfl) (fun _ _ _ h => h) (by rfl) (fun W hS => ?h58) hS0 ?r58
    case h58 =>
      obtain ⟨q0, q1, q2, q3, q4, p0, p1, p2, p3, p4, g0, g1, g2, g3, g4, sz⟩ := hS
      go_simp
      rfl
    simp only [Act.put, List.setIfInBounds_toArray, List.set_cons_zero, List.set_cons_succ]
    refine wpAnyZ_take (i := 7) (v := ?v59) rfl (by kernel_rfl) (fun _ _ _ h => h) (by rfl) (fun W hS => ?h59) hS0 ?r59
    case h59 =>
      obtain ⟨q0, q1, q2, q3, q4, p0, p1, p2, p3, p4, g0, g1, g2, g3, g4, sz⟩ := hS
      go_simp
      rfl
    simp only [Act.put, List.setIfInBounds_toArray, List.set_cons_zero, List.set_cons_succ]
    refine wpAnyZ_take (i := 8) (v := ?v60) rfl (by kernel_rfl) (fun _ _ _ h => h) (by rfl) (fun W hS => ?h60) hS0 ?r60
    case h60 =>
      obtain ⟨q0, q1, q2, q3, q4, p0, p1, p2, p3, p4, g0, g1, g2, g3, g4, sz⟩ := hS
      go_simp
      rfl
    simp only [Act.put, List.setIfInBounds_toArray, List.set_cons_zero, List.set_cons_succ]
    refine wpAnyZ_take (i := 9) (v := ?v61) rfl (by kernel_rfl) (fun _ _ _ h => h) (by rfl) (fun W hS => ?h61) hS0 ?r61
    case h61 =>
      obtain ⟨q0, q1, q2, q3, q4, p0, p1, p2, p3, p4, g0, g1, g2, g3, g4, sz⟩ := hS
      go_simp
      rfl
    simp only [Act.put, List.setIfInBounds_toArray, List.set_cons_zero, List.set_cons_succ]
    refine wpAnyZ_take (i := 10) (v := ?v62) rfl (by kernel_rfl) (fun _ _ _ h => h) (by rfl) (fun W hS => ?h62) hS0 ?r62
    case h62 =>
      obtain ⟨q0, q1, q2, q3, q4, p0, p1, p2, p3, p4, g0, g1, g2, g3, g4, sz⟩ := hS
      go_simp
      rfl
    simp only [Act.put, List.setIfInBounds_toArray, List.set_cons_zero, List.set_cons_succ]
    refine wpAnyZ_take (i := 11) (v := ?v63) rfl (by kernel_rfl) (fun _ _ _ h => h) (by rfl) (fun W hS => ?h63) hS0 ?r63
    case h63 =>
      obtain ⟨q0, q1, q2, q3, q4, p0, p1, p2, p3, p4, g0, g1, g2, g3, g4, sz⟩ := hS
      go_simp
      rfl
    simp only [Act.put, List.setIfInBounds_toArray, List.set_cons_zero, List.set_cons_succ]
    refine wpAnyZ_take (i := 12) (v := ?v64) rfl (by kernel_rfl) (fun _ _ _ h => h) (by rfl) (fun W hS => ?h64) hS0 ?r64
    case h64 =>
      obtain ⟨q0, q1, q2, q3, q4, p0, p1, p2, p3, p4, g0, g1, g2, g3, g4, sz⟩ := hS
      go_simp
      rfl
    simp only [Act.put, List.setIfInBounds_toArray, List.set_cons_zero, List.set_cons_succ]
    refine wpAnyZ_ready (rs := [13]) (by kernel_rfl) (by simp) ?_
    refine AllReadyZ.cons rfl (by rfl) (fun K hK => ?_) ?_
    rotate_left
    exact AllReadyZ.nil
    go_simp
    refine (HFT.out _ (hr.gr gV0)).mono ?_; rintro e w6 ⟨A3, c3, rfl, hrv, hg6, hnew⟩
    have gV6 := Gr.trans gV0 hg6
    have hS6 := hS0.gr hg6
    have hn1 : ∀ ad, A3 = some ad → w.heap.size + 1 < ad.block := fun ad h => by have := hnew ad h; obtain ⟨_, _, _, _, _, _, _, _, _, _, _, _, _, _, _, sz⟩ := hS0; omega
    go_wp2_with fail
    refine hK.out _ _ (fun hnz => ?s50) (fun _ => ?r50)
    case s50 => exact hS6
    clear hK K
    try simp only [Act.put, List.setIfInBounds_toArray, List.set_cons_zero, List.set_cons_succ]
    refine wpAnyZ_ready (rs := [14]) (by kernel_rfl) (by simp) ?_
    refine AllReadyZ.cons rfl (by rfl) (fun K hK => ?_) ?_
    rotate_left
    exact AllReadyZ.nil
    obtain ⟨q0, q1, q2, q3, q4, p0, p1, p2, p3, p4, g0, g1, g2, g3, g4, sz⟩ := hS6
    go_simp
    refine hK.out _ _ (fun hnz => ?s51) (fun _ => ?r51)
    case s51 => exact absurd rfl hnz
    clear hK K
    try simp only [Act.put, List.setIfInBounds_toArray, List.set_cons_zero, List.set_cons_succ]
    refine wpAnyZ_done (by kernel_rfl) ?_ _
    go_wp2
    refine bodyPost_ret (v := .agg #[.string T.name, .int .i64 T.start, .int .i64 T.step, .slice A3 T.vals.length c3, .int .i64 T.cons]) (by simp [results, Try.results17, go_sem, *]) rfl (retS_of hS.out ⟨A3, c3, rfl, ?_, ?_, ?_⟩)
    · exact (Rv.set (Rv.set (Rv.set (Rv.set (Rv.set hrv _ _ hn1) _ _ hn1) _ _ hn1) _ _ hn1) _ _ hn1)
    · exact (Gr.setCell (Gr.setCell (Gr.setCell (Gr.setCell (Gr.setCell gV6 (Nat.le_succ _) _) (Nat.le_succ _) _) (Nat.le_succ _) _) (Nat.le_succ _) _) (Nat.le_succ _) _)
    · exact fun ad h => by have := hn1 ad h; omega
end Go.Proofs.Ytoikpkgogncdhaa
