/- The contract of series.Fit: a series at other times. -/
import Derived.Test.YtoikpkgogncdhaaSrFitB
import Derived.Test.YtoikpkgogncdhaaSrOwn
import Derived.Test.YtoikpkgogncdhaaSrIs
namespace Go.Proofs.Ytoikpkgogncdhaa
set_option linter.unusedVariables false
set_option linter.unusedSimpArgs false
open Go.RowKit

set_option maxRecDepth 100000 in
set_option maxHeartbeats 3200000 in
theorem fit_bad (s : Sr) (A : Option Addr) (c : Nat) (start step n : Int) (w : World) (hl : s.vals.length ≤ 1000000) (hr : Rv w A s.vals) (hb : fitOk s start step n = false) :
    Calls Try.prog 13 #[.agg #[.string s.name, .int .i64 s.start, .int .i64 s.step, .slice A s.vals.length c, .int .i64 s.cons], .int .i64 start, .int .i64 step, .int .i64 n] w (RetS (fitS s start step n) w) := by
  cases hi : isS s
  case false =>
    have hS : fitS s start step n = s := by unfold fitS fitOk; simp [hi]
    have Q := fun w hr => sis_any s A c w hr
    simp only [hi] at Q
    rw [hS]
    clear hS
    go_enter Try.func13, Try.ntmps13
    go_wp2_with fail
    refine (Q _ ?hr).mono ?_
    case hr => exact hr.gr (by repeat (first | exact Gr.refl _ | refine Gr.alloc ?_ _ | refine Gr.drew ?_ | refine Gr.setCell ?_ (by first | (simp; done) | (simp; omega) | omega) _ | refine Gr.trans ?_ (by assumption)))
    rintro e w1 ⟨rfl, hg⟩
    have z1 := hg.size
    simp at z1
    have z0 : w.heap.size < w1.heap.size := by omega
    have z2 : w.heap.size + 1 < w1.heap.size := by omega
    obtain ⟨hc, hf⟩ := hg.cells
    have q0 : w1.cell? ⟨w.heap.size, 0, none⟩ = some (.string s.name) := by go_simp
    have q1 : w1.cell? ⟨w.heap.size, 1, none⟩ = some (.int .i64 s.start) := by go_simp
    have q2 : w1.cell? ⟨w.heap.size, 2, none⟩ = some (.int .i64 s.step) := by go_simp
    have q3 : w1.cell? ⟨w.heap.size, 3, none⟩ = some (.slice A s.vals.length c) := by go_simp
    have q4 : w1.cell? ⟨w.heap.size, 4, none⟩ = some (.int .i64 s.cons) := by go_simp
    have p0 : w1.cell? ⟨w.heap.size + 1, 0, none⟩ = some (.string ⟨#[]⟩) := by go_simp
    have g0 : w1.frozen? ⟨w.heap.size + 1, 0, none⟩ = false := by go_simp
    have p1 : w1.cell? ⟨w.heap.size + 1, 1, none⟩ = some (.int .i64 0) := by go_simp
    have g1 : w1.frozen? ⟨w.heap.size + 1, 1, none⟩ = false := by go_simp
    have p2 : w1.cell? ⟨w.heap.size + 1, 2, none⟩ = some (.int .i64 0) := by go_simp
    have g2 : w1.frozen? ⟨w.heap.size + 1, 2, none⟩ = false := by go_simp
    have p3 : w1.cell? ⟨w.heap.size + 1, 3, none⟩ = some (.slice none 0 0) := by go_simp
    have g3 : w1.frozen? ⟨w.heap.size + 1, 3, none⟩ = false := by go_simp
    have p4 : w1.cell? ⟨w.heap.size + 1, 4, none⟩ = some (.int .i64 0) := by go_simp
    have g4 : w1.frozen? ⟨w.heap.size + 1, 4, none⟩ = false := by go_simp
    have hgw : Gr w w1 := (by repeat (first | exact Gr.refl _ | refine Gr.alloc ?_ _ | refine Gr.drew ?_ | refine Gr.setCell ?_ (by first | (simp; done) | (simp; omega) | omega) _ | refine Gr.trans ?_ (by assumption)))
    clear hc hf hg Q
    go_wp2_with fail
    refine (own_any s A c _ hl (hr.gr hgw)).mono ?_
    rintro e w2 ⟨A', c', rfl, hrv, hg, hnew⟩
    have hgw2 := Gr.trans hgw hg
    replace p0 := (hg.cell (p := ⟨w.heap.size + 1, 0, none⟩) z2).trans p0
    replace g0 := (hg.frozen (p := ⟨w.heap.size + 1, 0, none⟩) z2).trans g0
    replace p1 := (hg.cell (p := ⟨w.heap.size + 1, 1, none⟩) z2).trans p1
    replace g1 := (hg.frozen (p := ⟨w.heap.size + 1, 1, none⟩) z2).trans g1
    replace p2 := (hg.cell (p := ⟨w.heap.size + 1, 2, none⟩) z2).trans p2
    replace g2 := (hg.frozen (p := ⟨w.heap.size + 1, 2, none⟩) z2).trans g2
    replace p3 := (hg.cell (p := ⟨w.heap.size + 1, 3, none⟩) z2).trans p3
    replace g3 := (hg.frozen (p := ⟨w.heap.size + 1, 3, none⟩) z2).trans g3
    replace p4 := (hg.cell (p := ⟨w.heap.size + 1, 4, none⟩) z2).trans p4
    replace g4 := (hg.frozen (p := ⟨w.heap.size + 1, 4, none⟩) z2).trans g4
    have y2 : w.heap.size + 1 < w2.heap.size := Nat.lt_of_lt_of_le z2 hg.size
    have hn1 : ∀ ad, A' = some ad → w.heap.size + 1 < ad.block := fun ad h => by have := hnew ad h; omega
    clear hg hnew q0 q1 q2 q3 q4
    go_wp2
    refine bodyPost_ret (v := .agg #[.string s.name, .int .i64 s.start, .int .i64 s.step, .slice A' s.vals.length c', .int .i64 s.cons]) (by simp [results, Try.results13, go_sem, *]) rfl ⟨A', c', rfl, ?_, ?_, ?_⟩
    · exact (Rv.set (Rv.set (Rv.set (Rv.set (Rv.set hrv _ _ hn1) _ _ hn1) _ _ hn1) _ _ hn1) _ _ hn1)
    · exact (Gr.setCell (Gr.setCell (Gr.setCell (Gr.setCell (Gr.setCell hgw2 (Nat.le_succ _) _) (Nat.le_succ _) _) (Nat.le_succ _) _) (Nat.le_succ _) _) (Nat.le_succ _) _)
    · exact fun ad h => by have := hn1 ad h; omega
  by_cases h_s1 : 1 ≤ step
  case neg =>
    have hS : fitS s start step n = s := by unfold fitS fitOk; simp [hi, h_s1]
    have Q := fun w hr => sis_any s A c w hr
    simp only [hi] at Q
    rw [hS]
    clear hS
    go_enter Try.func13, Try.ntmps13
    go_wp2_with fail
    refine (Q _ ?hr).mono ?_
    case hr => exact hr.gr (by repeat (first | exact Gr.refl _ | refine Gr.alloc ?_ _ | refine Gr.drew ?_ | refine Gr.setCell ?_ (by first | (simp; done) | (simp; omega) | omega) _ | refine Gr.trans ?_ (by assumption)))
    rintro e w1 ⟨rfl, hg⟩
    have z1 := hg.size
    simp at z1
    have z0 : w.heap.size < w1.heap.size := by omega
    have z2 : w.heap.size + 1 < w1.heap.size := by omega
    obtain ⟨hc, hf⟩ := hg.cells
    have q0 : w1.cell? ⟨w.heap.size, 0, none⟩ = some (.string s.name) := by go_simp
    have q1 : w1.cell? ⟨w.heap.size, 1, none⟩ = some (.int .i64 s.start) := by go_simp
    have q2 : w1.cell? ⟨w.heap.size, 2, none⟩ = some (.int .i64 s.step) := by go_simp
    have q3 : w1.cell? ⟨w.heap.size, 3, none⟩ = some (.slice A s.vals.length c) := by go_simp
    have q4 : w1.cell? ⟨w.heap.size, 4, none⟩ = some (.int .i64 s.cons) := by go_simp
    have p0 : w1.cell? ⟨w.heap.size + 1, 0, none⟩ = some (.string ⟨#[]⟩) := by go_simp
    have g0 : w1.frozen? ⟨w.heap.size + 1, 0, none⟩ = false := by go_simp
    have p1 : w1.cell? ⟨w.heap.size + 1, 1, none⟩ = some (.int .i64 0) := by go_simp
    have g1 : w1.frozen? ⟨w.heap.size + 1, 1, none⟩ = false := by go_simp
    have p2 : w1.cell? ⟨w.heap.size + 1, 2, none⟩ = some (.int .i64 0) := by go_simp
    have g2 : w1.frozen? ⟨w.heap.size + 1, 2, none⟩ = false := by go_simp
    have p3 : w1.cell? ⟨w.heap.size + 1, 3, none⟩ = some (.slice none 0 0) := by go_simp
    have g3 : w1.frozen? ⟨w.heap.size + 1, 3, none⟩ = false := by go_simp
    have p4 : w1.cell? ⟨w.heap.size + 1, 4, none⟩ = some (.int .i64 0) := by go_simp
    have g4 : w1.frozen? ⟨w.heap.size + 1, 4, none⟩ = false := by go_simp
    have hgw : Gr w w1 := (by repeat (first | exact Gr.refl _ | refine Gr.alloc ?_ _ | refine Gr.drew ?_ | refine Gr.setCell ?_ (by first | (simp; done) | (simp; omega) | omega) _ | refine Gr.trans ?_ (by assumption)))
    clear hc hf hg Q
    go_wp2_with fail
    refine (own_any s A c _ hl (hr.gr hgw)).mono ?_
    rintro e w2 ⟨A', c', rfl, hrv, hg, hnew⟩
    have hgw2 := Gr.trans hgw hg
    replace p0 := (hg.cell (p := ⟨w.heap.size + 1, 0, none⟩) z2).trans p0
    replace g0 := (hg.frozen (p := ⟨w.heap.size + 1, 0, none⟩) z2).trans g0
    replace p1 := (hg.cell (p := ⟨w.heap.size + 1, 1, none⟩) z2).trans p1
    replace g1 := (hg.frozen (p := ⟨w.heap.size + 1, 1, none⟩) z2).trans g1
    replace p2 := (hg.cell (p := ⟨w.heap.size + 1, 2, none⟩) z2).trans p2
    replace g2 := (hg.frozen (p := ⟨w.heap.size + 1, 2, none⟩) z2).trans g2
    replace p3 := (hg.cell (p := ⟨w.heap.size + 1, 3, none⟩) z2).trans p3
    replace g3 := (hg.frozen (p := ⟨w.heap.size + 1, 3, none⟩) z2).trans g3
    replace p4 := (hg.cell (p := ⟨w.heap.size + 1, 4, none⟩) z2).trans p4
    replace g4 := (hg.frozen (p := ⟨w.heap.size + 1, 4, none⟩) z2).trans g4
    have y2 : w.heap.size + 1 < w2.heap.size := Nat.lt_of_lt_of_le z2 hg.size
    have hn1 : ∀ ad, A' = some ad → w.heap.size + 1 < ad.block := fun ad h => by have := hnew ad h; omega
    clear hg hnew q0 q1 q2 q3 q4
    go_wp2
    refine bodyPost_ret (v := .agg #[.string s.name, .int .i64 s.start, .int .i64 s.step, .slice A' s.vals.length c', .int .i64 s.cons]) (by simp [results, Try.results13, go_sem, *]) rfl ⟨A', c', rfl, ?_, ?_, ?_⟩
    · exact (Rv.set (Rv.set (Rv.set (Rv.set (Rv.set hrv _ _ hn1) _ _ hn1) _ _ hn1) _ _ hn1) _ _ hn1)
    · exact (Gr.setCell (Gr.setCell (Gr.setCell (Gr.setCell (Gr.setCell hgw2 (Nat.le_succ _) _) (Nat.le_succ _) _) (Nat.le_succ _) _) (Nat.le_succ _) _) (Nat.le_succ _) _)
    · exact fun ad h => by have := hn1 ad h; omega
  by_cases h_s2 : step ≤ 1099511627776
  case neg =>
    have hS : fitS s start step n = s := by unfold fitS fitOk; simp [hi, h_s2]
    have Q := fun w hr => sis_any s A c w hr
    simp only [hi] at Q
    rw [hS]
    clear hS
    go_enter Try.func13, Try.ntmps13
    go_wp2_with fail
    refine (Q _ ?hr).mono ?_
    case hr => exact hr.gr (by repeat (first | exact Gr.refl _ | refine Gr.alloc ?_ _ | refine Gr.drew ?_ | refine Gr.setCell ?_ (by first | (simp; done) | (simp; omega) | omega) _ | refine Gr.trans ?_ (by assumption)))
    rintro e w1 ⟨rfl, hg⟩
    have z1 := hg.size
    simp at z1
    have z0 : w.heap.size < w1.heap.size := by omega
    have z2 : w.heap.size + 1 < w1.heap.size := by omega
    obtain ⟨hc, hf⟩ := hg.cells
    have q0 : w1.cell? ⟨w.heap.size, 0, none⟩ = some (.string s.name) := by go_simp
    have q1 : w1.cell? ⟨w.heap.size, 1, none⟩ = some (.int .i64 s.start) := by go_simp
    have q2 : w1.cell? ⟨w.heap.size, 2, none⟩ = some (.int .i64 s.step) := by go_simp
    have q3 : w1.cell? ⟨w.heap.size, 3, none⟩ = some (.slice A s.vals.length c) := by go_simp
    have q4 : w1.cell? ⟨w.heap.size, 4, none⟩ = some (.int .i64 s.cons) := by go_simp
    have p0 : w1.cell? ⟨w.heap.size + 1, 0, none⟩ = some (.string ⟨#[]⟩) := by go_simp
    have g0 : w1.frozen? ⟨w.heap.size + 1, 0, none⟩ = false := by go_simp
    have p1 : w1.cell? ⟨w.heap.size + 1, 1, none⟩ = some (.int .i64 0) := by go_simp
    have g1 : w1.frozen? ⟨w.heap.size + 1, 1, none⟩ = false := by go_simp
    have p2 : w1.cell? ⟨w.heap.size + 1, 2, none⟩ = some (.int .i64 0) := by go_simp
    have g2 : w1.frozen? ⟨w.heap.size + 1, 2, none⟩ = false := by go_simp
    have p3 : w1.cell? ⟨w.heap.size + 1, 3, none⟩ = some (.slice none 0 0) := by go_simp
    have g3 : w1.frozen? ⟨w.heap.size + 1, 3, none⟩ = false := by go_simp
    have p4 : w1.cell? ⟨w.heap.size + 1, 4, none⟩ = some (.int .i64 0) := by go_simp
    have g4 : w1.frozen? ⟨w.heap.size + 1, 4, none⟩ = false := by go_simp
    have hgw : Gr w w1 := (by repeat (first | exact Gr.refl _ | refine Gr.alloc ?_ _ | refine Gr.drew ?_ | refine Gr.setCell ?_ (by first | (simp; done) | (simp; omega) | omega) _ | refine Gr.trans ?_ (by assumption)))
    clear hc hf hg Q
    go_wp2_with fail
    refine (own_any s A c _ hl (hr.gr hgw)).mono ?_
    rintro e w2 ⟨A', c', rfl, hrv, hg, hnew⟩
    have hgw2 := Gr.trans hgw hg
    replace p0 := (hg.cell (p := ⟨w.heap.size + 1, 0, none⟩) z2).trans p0
    replace g0 := (hg.frozen (p := ⟨w.heap.size + 1, 0, none⟩) z2).trans g0
    replace p1 := (hg.cell (p := ⟨w.heap.size + 1, 1, none⟩) z2).trans p1
    replace g1 := (hg.frozen (p := ⟨w.heap.size + 1, 1, none⟩) z2).trans g1
    replace p2 := (hg.cell (p := ⟨w.heap.size + 1, 2, none⟩) z2).trans p2
    replace g2 := (hg.frozen (p := ⟨w.heap.size + 1, 2, none⟩) z2).trans g2
    replace p3 := (hg.cell (p := ⟨w.heap.size + 1, 3, none⟩) z2).trans p3
    replace g3 := (hg.frozen (p := ⟨w.heap.size + 1, 3, none⟩) z2).trans g3
    replace p4 := (hg.cell (p := ⟨w.heap.size + 1, 4, none⟩) z2).trans p4
    replace g4 := (hg.frozen (p := ⟨w.heap.size + 1, 4, none⟩) z2).trans g4
    have y2 : w.heap.size + 1 < w2.heap.size := Nat.lt_of_lt_of_le z2 hg.size
    have hn1 : ∀ ad, A' = some ad → w.heap.size + 1 < ad.block := fun ad h => by have := hnew ad h; omega
    clear hg hnew q0 q1 q2 q3 q4
    go_wp2
    refine bodyPost_ret (v := .agg #[.string s.name, .int .i64 s.start, .int .i64 s.step, .slice A' s.vals.length c', .int .i64 s.cons]) (by simp [results, Try.results13, go_sem, *]) rfl ⟨A', c', rfl, ?_, ?_, ?_⟩
    · exact (Rv.set (Rv.set (Rv.set (Rv.set (Rv.set hrv _ _ hn1) _ _ hn1) _ _ hn1) _ _ hn1) _ _ hn1)
    · exact (Gr.setCell (Gr.setCell (Gr.setCell (Gr.setCell (Gr.setCell hgw2 (Nat.le_succ _) _) (Nat.le_succ _) _) (Nat.le_succ _) _) (Nat.le_succ _) _) (Nat.le_succ _) _)
    · exact fun ad h => by have := hn1 ad h; omega
  by_cases h_n1 : 0 ≤ n
  case neg =>
    have hS : fitS s start step n = s := by unfold fitS fitOk; simp [hi, h_n1]
    have Q := fun w hr => sis_any s A c w hr
    simp only [hi] at Q
    rw [hS]
    clear hS
    go_enter Try.func13, Try.ntmps13
    go_wp2_with fail
    refine (Q _ ?hr).mono ?_
    case hr => exact hr.gr (by repeat (first | exact Gr.refl _ | refine Gr.alloc ?_ _ | refine Gr.drew ?_ | refine Gr.setCell ?_ (by first | (simp; done) | (simp; omega) | omega) _ | refine Gr.trans ?_ (by assumption)))
    rintro e w1 ⟨rfl, hg⟩
    have z1 := hg.size
    simp at z1
    have z0 : w.heap.size < w1.heap.size := by omega
    have z2 : w.heap.size + 1 < w1.heap.size := by omega
    obtain ⟨hc, hf⟩ := hg.cells
    have q0 : w1.cell? ⟨w.heap.size, 0, none⟩ = some (.string s.name) := by go_simp
    have q1 : w1.cell? ⟨w.heap.size, 1, none⟩ = some (.int .i64 s.start) := by go_simp
    have q2 : w1.cell? ⟨w.heap.size, 2, none⟩ = some (.int .i64 s.step) := by go_simp
    have q3 : w1.cell? ⟨w.heap.size, 3, none⟩ = some (.slice A s.vals.length c) := by go_simp
    have q4 : w1.cell? ⟨w.heap.size, 4, none⟩ = some (.int .i64 s.cons) := by go_simp
    have p0 : w1.cell? ⟨w.heap.size + 1, 0, none⟩ = some (.string ⟨#[]⟩) := by go_simp
    have g0 : w1.frozen? ⟨w.heap.size + 1, 0, none⟩ = false := by go_simp
    have p1 : w1.cell? ⟨w.heap.size + 1, 1, none⟩ = some (.int .i64 0) := by go_simp
    have g1 : w1.frozen? ⟨w.heap.size + 1, 1, none⟩ = false := by go_simp
    have p2 : w1.cell? ⟨w.heap.size + 1, 2, none⟩ = some (.int .i64 0) := by go_simp
    have g2 : w1.frozen? ⟨w.heap.size + 1, 2, none⟩ = false := by go_simp
    have p3 : w1.cell? ⟨w.heap.size + 1, 3, none⟩ = some (.slice none 0 0) := by go_simp
    have g3 : w1.frozen? ⟨w.heap.size + 1, 3, none⟩ = false := by go_simp
    have p4 : w1.cell? ⟨w.heap.size + 1, 4, none⟩ = some (.int .i64 0) := by go_simp
    have g4 : w1.frozen? ⟨w.heap.size + 1, 4, none⟩ = false := by go_simp
    have hgw : Gr w w1 := (by repeat (first | exact Gr.refl _ | refine Gr.alloc ?_ _ | refine Gr.drew ?_ | refine Gr.setCell ?_ (by first | (simp; done) | (simp; omega) | omega) _ | refine Gr.trans ?_ (by assumption)))
    clear hc hf hg Q
    go_wp2_with fail
    refine (own_any s A c _ hl (hr.gr hgw)).mono ?_
    rintro e w2 ⟨A', c', rfl, hrv, hg, hnew⟩
    have hgw2 := Gr.trans hgw hg
    replace p0 := (hg.cell (p := ⟨w.heap.size + 1, 0, none⟩) z2).trans p0
    replace g0 := (hg.frozen (p := ⟨w.heap.size + 1, 0, none⟩) z2).trans g0
    replace p1 := (hg.cell (p := ⟨w.heap.size + 1, 1, none⟩) z2).trans p1
    replace g1 := (hg.frozen (p := ⟨w.heap.size + 1, 1, none⟩) z2).trans g1
    replace p2 := (hg.cell (p := ⟨w.heap.size + 1, 2, none⟩) z2).trans p2
    replace g2 := (hg.frozen (p := ⟨w.heap.size + 1, 2, none⟩) z2).trans g2
    replace p3 := (hg.cell (p := ⟨w.heap.size + 1, 3, none⟩) z2).trans p3
    replace g3 := (hg.frozen (p := ⟨w.heap.size + 1, 3, none⟩) z2).trans g3
    replace p4 := (hg.cell (p := ⟨w.heap.size + 1, 4, none⟩) z2).trans p4
    replace g4 := (hg.frozen (p := ⟨w.heap.size + 1, 4, none⟩) z2).trans g4
    have y2 : w.heap.size + 1 < w2.heap.size := Nat.lt_of_lt_of_le z2 hg.size
    have hn1 : ∀ ad, A' = some ad → w.heap.size + 1 < ad.block := fun ad h => by have := hnew ad h; omega
    clear hg hnew q0 q1 q2 q3 q4
    go_wp2
    refine bodyPost_ret (v := .agg #[.string s.name, .int .i64 s.start, .int .i64 s.step, .slice A' s.vals.length c', .int .i64 s.cons]) (by simp [results, Try.results13, go_sem, *]) rfl ⟨A', c', rfl, ?_, ?_, ?_⟩
    · exact (Rv.set (Rv.set (Rv.set (Rv.set (Rv.set hrv _ _ hn1) _ _ hn1) _ _ hn1) _ _ hn1) _ _ hn1)
    · exact (Gr.setCell (Gr.setCell (Gr.setCell (Gr.setCell (Gr.setCell hgw2 (Nat.le_succ _) _) (Nat.le_succ _) _) (Nat.le_succ _) _) (Nat.le_succ _) _) (Nat.le_succ _) _)
    · exact fun ad h => by have := hn1 ad h; omega
  by_cases h_n2 : n ≤ 131072
  case neg =>
    have hS : fitS s start step n = s := by unfold fitS fitOk; simp [hi, h_n2]
    have Q := fun w hr => sis_any s A c w hr
    simp only [hi] at Q
    rw [hS]
    clear hS
    go_enter Try.func13, Try.ntmps13
    go_wp2_with fail
    refine (Q _ ?hr).mono ?_
    case hr => exact hr.gr (by repeat (first | exact Gr.refl _ | refine Gr.alloc ?_ _ | refine Gr.drew ?_ | refine Gr.setCell ?_ (by first | (simp; done) | (simp; omega) | omega) _ | refine Gr.trans ?_ (by assumption)))
    rintro e w1 ⟨rfl, hg⟩
    have z1 := hg.size
    simp at z1
    have z0 : w.heap.size < w1.heap.size := by omega
    have z2 : w.heap.size + 1 < w1.heap.size := by omega
    obtain ⟨hc, hf⟩ := hg.cells
    have q0 : w1.cell? ⟨w.heap.size, 0, none⟩ = some (.string s.name) := by go_simp
    have q1 : w1.cell? ⟨w.heap.size, 1, none⟩ = some (.int .i64 s.start) := by go_simp
    have q2 : w1.cell? ⟨w.heap.size, 2, none⟩ = some (.int .i64 s.step) := by go_simp
    have q3 : w1.cell? ⟨w.heap.size, 3, none⟩ = some (.slice A s.vals.length c) := by go_simp
    have q4 : w1.cell? ⟨w.heap.size, 4, none⟩ = some (.int .i64 s.cons) := by go_simp
    have p0 : w1.cell? ⟨w.heap.size + 1, 0, none⟩ = some (.string ⟨#[]⟩) := by go_simp
    have g0 : w1.frozen? ⟨w.heap.size + 1, 0, none⟩ = false := by go_simp
    have p1 : w1.cell? ⟨w.heap.size + 1, 1, none⟩ = some (.int .i64 0) := by go_simp
    have g1 : w1.frozen? ⟨w.heap.size + 1, 1, none⟩ = false := by go_simp
    have p2 : w1.cell? ⟨w.heap.size + 1, 2, none⟩ = some (.int .i64 0) := by go_simp
    have g2 : w1.frozen? ⟨w.heap.size + 1, 2, none⟩ = false := by go_simp
    have p3 : w1.cell? ⟨w.heap.size + 1, 3, none⟩ = some (.slice none 0 0) := by go_simp
    have g3 : w1.frozen? ⟨w.heap.size + 1, 3, none⟩ = false := by go_simp
    have p4 : w1.cell? ⟨w.heap.size + 1, 4, none⟩ = some (.int .i64 0) := by go_simp
    have g4 : w1.frozen? ⟨w.heap.size + 1, 4, none⟩ = false := by go_simp
    have hgw : Gr w w1 := (by repeat (first | exact Gr.refl _ | refine Gr.alloc ?_ _ | refine Gr.drew ?_ | refine Gr.setCell ?_ (by first | (simp; done) | (simp; omega) | omega) _ | refine Gr.trans ?_ (by assumption)))
    clear hc hf hg Q
    go_wp2_with fail
    refine (own_any s A c _ hl (hr.gr hgw)).mono ?_
    rintro e w2 ⟨A', c', rfl, hrv, hg, hnew⟩
    have hgw2 := Gr.trans hgw hg
    replace p0 := (hg.cell (p := ⟨w.heap.size + 1, 0, none⟩) z2).trans p0
    replace g0 := (hg.frozen (p := ⟨w.heap.size + 1, 0, none⟩) z2).trans g0
    replace p1 := (hg.cell (p := ⟨w.heap.size + 1, 1, none⟩) z2).trans p1
    replace g1 := (hg.frozen (p := ⟨w.heap.size + 1, 1, none⟩) z2).trans g1
    replace p2 := (hg.cell (p := ⟨w.heap.size + 1, 2, none⟩) z2).trans p2
    replace g2 := (hg.frozen (p := ⟨w.heap.size + 1, 2, none⟩) z2).trans g2
    replace p3 := (hg.cell (p := ⟨w.heap.size + 1, 3, none⟩) z2).trans p3
    replace g3 := (hg.frozen (p := ⟨w.heap.size + 1, 3, none⟩) z2).trans g3
    replace p4 := (hg.cell (p := ⟨w.heap.size + 1, 4, none⟩) z2).trans p4
    replace g4 := (hg.frozen (p := ⟨w.heap.size + 1, 4, none⟩) z2).trans g4
    have y2 : w.heap.size + 1 < w2.heap.size := Nat.lt_of_lt_of_le z2 hg.size
    have hn1 : ∀ ad, A' = some ad → w.heap.size + 1 < ad.block := fun ad h => by have := hnew ad h; omega
    clear hg hnew q0 q1 q2 q3 q4
    go_wp2
    refine bodyPost_ret (v := .agg #[.string s.name, .int .i64 s.start, .int .i64 s.step, .slice A' s.vals.length c', .int .i64 s.cons]) (by simp [results, Try.results13, go_sem, *]) rfl ⟨A', c', rfl, ?_, ?_, ?_⟩
    · exact (Rv.set (Rv.set (Rv.set (Rv.set (Rv.set hrv _ _ hn1) _ _ hn1) _ _ hn1) _ _ hn1) _ _ hn1)
    · exact (Gr.setCell (Gr.setCell (Gr.setCell (Gr.setCell (Gr.setCell hgw2 (Nat.le_succ _) _) (Nat.le_succ _) _) (Nat.le_succ _) _) (Nat.le_succ _) _) (Nat.le_succ _) _)
    · exact fun ad h => by have := hn1 ad h; omega
  by_cases h_t1 : 0 ≤ start
  case neg =>
    have hS : fitS s start step n = s := by unfold fitS fitOk; simp [hi, h_t1]
    have Q := fun w hr => sis_any s A c w hr
    simp only [hi] at Q
    rw [hS]
    clear hS
    go_enter Try.func13, Try.ntmps13
    go_wp2_with fail
    refine (Q _ ?hr).mono ?_
    case hr => exact hr.gr (by repeat (first | exact Gr.refl _ | refine Gr.alloc ?_ _ | refine Gr.drew ?_ | refine Gr.setCell ?_ (by first | (simp; done) | (simp; omega) | omega) _ | refine Gr.trans ?_ (by assumption)))
    rintro e w1 ⟨rfl, hg⟩
    have z1 := hg.size
    simp at z1
    have z0 : w.heap.size < w1.heap.size := by omega
    have z2 : w.heap.size + 1 < w1.heap.size := by omega
    obtain ⟨hc, hf⟩ := hg.cells
    have q0 : w1.cell? ⟨w.heap.size, 0, none⟩ = some (.string s.name) := by go_simp
    have q1 : w1.cell? ⟨w.heap.size, 1, none⟩ = some (.int .i64 s.start) := by go_simp
    have q2 : w1.cell? ⟨w.heap.size, 2, none⟩ = some (.int .i64 s.step) := by go_simp
    have q3 : w1.cell? ⟨w.heap.size, 3, none⟩ = some (.slice A s.vals.length c) := by go_simp
    have q4 : w1.cell? ⟨w.heap.size, 4, none⟩ = some (.int .i64 s.cons) := by go_simp
    have p0 : w1.cell? ⟨w.heap.size + 1, 0, none⟩ = some (.string ⟨#[]⟩) := by go_simp
    have g0 : w1.frozen? ⟨w.heap.size + 1, 0, none⟩ = false := by go_simp
    have p1 : w1.cell? ⟨w.heap.size + 1, 1, none⟩ = some (.int .i64 0) := by go_simp
    have g1 : w1.frozen? ⟨w.heap.size + 1, 1, none⟩ = false := by go_simp
    have p2 : w1.cell? ⟨w.heap.size + 1, 2, none⟩ = some (.int .i64 0) := by go_simp
    have g2 : w1.frozen? ⟨w.heap.size + 1, 2, none⟩ = false := by go_simp
    have p3 : w1.cell? ⟨w.heap.size + 1, 3, none⟩ = some (.slice none 0 0) := by go_simp
    have g3 : w1.frozen? ⟨w.heap.size + 1, 3, none⟩ = false := by go_simp
    have p4 : w1.cell? ⟨w.heap.size + 1, 4, none⟩ = some (.int .i64 0) := by go_simp
    have g4 : w1.frozen? ⟨w.heap.size + 1, 4, none⟩ = false := by go_simp
    have hgw : Gr w w1 := (by repeat (first | exact Gr.refl _ | refine Gr.alloc ?_ _ | refine Gr.drew ?_ | refine Gr.setCell ?_ (by first | (simp; done) | (simp; omega) | omega) _ | refine Gr.trans ?_ (by assumption)))
    clear hc hf hg Q
    go_wp2_with fail
    refine (own_any s A c _ hl (hr.gr hgw)).mono ?_
    rintro e w2 ⟨A', c', rfl, hrv, hg, hnew⟩
    have hgw2 := Gr.trans hgw hg
    replace p0 := (hg.cell (p := ⟨w.heap.size + 1, 0, none⟩) z2).trans p0
    replace g0 := (hg.frozen (p := ⟨w.heap.size + 1, 0, none⟩) z2).trans g0
    replace p1 := (hg.cell (p := ⟨w.heap.size + 1, 1, none⟩) z2).trans p1
    replace g1 := (hg.frozen (p := ⟨w.heap.size + 1, 1, none⟩) z2).trans g1
    replace p2 := (hg.cell (p := ⟨w.heap.size + 1, 2, none⟩) z2).trans p2
    replace g2 := (hg.frozen (p := ⟨w.heap.size + 1, 2, none⟩) z2).trans g2
    replace p3 := (hg.cell (p := ⟨w.heap.size + 1, 3, none⟩) z2).trans p3
    replace g3 := (hg.frozen (p := ⟨w.heap.size + 1, 3, none⟩) z2).trans g3
    replace p4 := (hg.cell (p := ⟨w.heap.size + 1, 4, none⟩) z2).trans p4
    replace g4 := (hg.frozen (p := ⟨w.heap.size + 1, 4, none⟩) z2).trans g4
    have y2 : w.heap.size + 1 < w2.heap.size := Nat.lt_of_lt_of_le z2 hg.size
    have hn1 : ∀ ad, A' = some ad → w.heap.size + 1 < ad.block := fun ad h => by have := hnew ad h; omega
    clear hg hnew q0 q1 q2 q3 q4
    go_wp2
    refine bodyPost_ret (v := .agg #[.string s.name, .int .i64 s.start, .int .i64 s.step, .slice A' s.vals.length c', .int .i64 s.cons]) (by simp [results, Try.results13, go_sem, *]) rfl ⟨A', c', rfl, ?_, ?_, ?_⟩
    · exact (Rv.set (Rv.set (Rv.set (Rv.set (Rv.set hrv _ _ hn1) _ _ hn1) _ _ hn1) _ _ hn1) _ _ hn1)
    · exact (Gr.setCell (Gr.setCell (Gr.setCell (Gr.setCell (Gr.setCell hgw2 (Nat.le_succ _) _) (Nat.le_succ _) _) (Nat.le_succ _) _) (Nat.le_succ _) _) (Nat.le_succ _) _)
    · exact fun ad h => by have := hn1 ad h; omega
  by_cases h_t2 : start ≤ 4294967295
  case neg =>
    have hS : fitS s start step n = s := by unfold fitS fitOk; simp [hi, h_t2]
    have Q := fun w hr => sis_any s A c w hr
    simp only [hi] at Q
    rw [hS]
    clear hS
    go_enter Try.func13, Try.ntmps13
    go_wp2_with fail
    refine (Q _ ?hr).mono ?_
    case hr => exact hr.gr (by repeat (first | exact Gr.refl _ | refine Gr.alloc ?_ _ | refine Gr.drew ?_ | refine Gr.setCell ?_ (by first | (simp; done) | (simp; omega) | omega) _ | refine Gr.trans ?_ (by assumption)))
    rintro e w1 ⟨rfl, hg⟩
    have z1 := hg.size
    simp at z1
    have z0 : w.heap.size < w1.heap.size := by omega
    have z2 : w.heap.size + 1 < w1.heap.size := by omega
    obtain ⟨hc, hf⟩ := hg.cells
    have q0 : w1.cell? ⟨w.heap.size, 0, none⟩ = some (.string s.name) := by go_simp
    have q1 : w1.cell? ⟨w.heap.size, 1, none⟩ = some (.int .i64 s.start) := by go_simp
    have q2 : w1.cell? ⟨w.heap.size, 2, none⟩ = some (.int .i64 s.step) := by go_simp
    have q3 : w1.cell? ⟨w.heap.size, 3, none⟩ = some (.slice A s.vals.length c) := by go_simp
    have q4 : w1.cell? ⟨w.heap.size, 4, none⟩ = some (.int .i64 s.cons) := by go_simp
    have p0 : w1.cell? ⟨w.heap.size + 1, 0, none⟩ = some (.string ⟨#[]⟩) := by go_simp
    have g0 : w1.frozen? ⟨w.heap.size + 1, 0, none⟩ = false := by go_simp
    have p1 : w1.cell? ⟨w.heap.size + 1, 1, none⟩ = some (.int .i64 0) := by go_simp
    have g1 : w1.frozen? ⟨w.heap.size + 1, 1, none⟩ = false := by go_simp
    have p2 : w1.cell? ⟨w.heap.size + 1, 2, none⟩ = some (.int .i64 0) := by go_simp
    have g2 : w1.frozen? ⟨w.heap.size + 1, 2, none⟩ = false := by go_simp
    have p3 : w1.cell? ⟨w.heap.size + 1, 3, none⟩ = some (.slice none 0 0) := by go_simp
    have g3 : w1.frozen? ⟨w.heap.size + 1, 3, none⟩ = false := by go_simp
    have p4 : w1.cell? ⟨w.heap.size + 1, 4, none⟩ = some (.int .i64 0) := by go_simp
    have g4 : w1.frozen? ⟨w.heap.size + 1, 4, none⟩ = false := by go_simp
    have hgw : Gr w w1 := (by repeat (first | exact Gr.refl _ | refine Gr.alloc ?_ _ | refine Gr.drew ?_ | refine Gr.setCell ?_ (by first | (simp; done) | (simp; omega) | omega) _ | refine Gr.trans ?_ (by assumption)))
    clear hc hf hg Q
    go_wp2_with fail
    refine (own_any s A c _ hl (hr.gr hgw)).mono ?_
    rintro e w2 ⟨A', c', rfl, hrv, hg, hnew⟩
    have hgw2 := Gr.trans hgw hg
    replace p0 := (hg.cell (p := ⟨w.heap.size + 1, 0, none⟩) z2).trans p0
    replace g0 := (hg.frozen (p := ⟨w.heap.size + 1, 0, none⟩) z2).trans g0
    replace p1 := (hg.cell (p := ⟨w.heap.size + 1, 1, none⟩) z2).trans p1
    replace g1 := (hg.frozen (p := ⟨w.heap.size + 1, 1, none⟩) z2).trans g1
    replace p2 := (hg.cell (p := ⟨w.heap.size + 1, 2, none⟩) z2).trans p2
    replace g2 := (hg.frozen (p := ⟨w.heap.size + 1, 2, none⟩) z2).trans g2
    replace p3 := (hg.cell (p := ⟨w.heap.size + 1, 3, none⟩) z2).trans p3
    replace g3 := (hg.frozen (p := ⟨w.heap.size + 1, 3, none⟩) z2).trans g3
    replace p4 := (hg.cell (p := ⟨w.heap.size + 1, 4, none⟩) z2).trans p4
    replace g4 := (hg.frozen (p := ⟨w.heap.size + 1, 4, none⟩) z2).trans g4
    have y2 : w.heap.size + 1 < w2.heap.size := Nat.lt_of_lt_of_le z2 hg.size
    have hn1 : ∀ ad, A' = some ad → w.heap.size + 1 < ad.block := fun ad h => by have := hnew ad h; omega
    clear hg hnew q0 q1 q2 q3 q4
    go_wp2
    refine bodyPost_ret (v := .agg #[.string s.name, .int .i64 s.start, .int .i64 s.step, .slice A' s.vals.length c', .int .i64 s.cons]) (by simp [results, Try.results13, go_sem, *]) rfl ⟨A', c', rfl, ?_, ?_, ?_⟩
    · exact (Rv.set (Rv.set (Rv.set (Rv.set (Rv.set hrv _ _ hn1) _ _ hn1) _ _ hn1) _ _ hn1) _ _ hn1)
    · exact (Gr.setCell (Gr.setCell (Gr.setCell (Gr.setCell (Gr.setCell hgw2 (Nat.le_succ _) _) (Nat.le_succ _) _) (Nat.le_succ _) _) (Nat.le_succ _) _) (Nat.le_succ _) _)
    · exact fun ad h => by have := hn1 ad h; omega
  exfalso
  unfold fitOk at hb
  simp [hi, h_s1, h_s2, h_n1, h_n2, h_t1, h_t2] at hb

end Go.Proofs.Ytoikpkgogncdhaa
