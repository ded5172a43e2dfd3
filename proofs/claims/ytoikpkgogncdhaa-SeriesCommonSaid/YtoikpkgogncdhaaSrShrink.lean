/- The contracts of series.Fit (whole) and of series.Shrink. -/
import Derived.Test.YtoikpkgogncdhaaSrFit
import Derived.Test.YtoikpkgogncdhaaSrFitN
import Derived.Test.YtoikpkgogncdhaaSrSmall
import Derived.Test.YtoikpkgogncdhaaSrJoinP
import Derived.BigQuiet
namespace Go.Proofs.Ytoikpkgogncdhaa
set_option linter.unusedVariables false
set_option linter.unusedSimpArgs false
open Go.RowKit

theorem fit_any (s : Sr) (A : Option Addr) (c : Nat) (start step n : Int) (w : World) (hl : s.vals.length ≤ 1000000) (hcap : s.vals.length ≤ c) (hr : Rv w A s.vals) :
    Calls Try.prog 13 #[.agg #[.string s.name, .int .i64 s.start, .int .i64 s.step, .slice A s.vals.length c, .int .i64 s.cons], .int .i64 start, .int .i64 step, .int .i64 n] w (RetS (fitS s start step n) w) := by
  cases hb : fitOk s start step n
  · exact fit_bad s A c start step n w hl hr hb
  · have h := hb
    unfold fitOk at h
    simp only [Bool.and_eq_true, decide_eq_true_eq] at h
    obtain ⟨ho, a1, a2, a3, a4, a5, a6⟩ := h
    have e : fitS s start step n = ⟨s.name, start, step, fitL s start step n.toNat, s.cons⟩ := by unfold fitS; rw [if_pos hb]
    have hn : ((n.toNat : Nat) : Int) = n := Int.toNat_of_nonneg a3
    have h := fit_good s A c start step n.toNat w hcap hr ((isS_iff s).1 ho) a1 a2 (by omega) a5 a6
    rw [hn] at h
    rw [e]
    exact h

def FB (s : Sr) (A : Option Addr) (c : Nat) (B0 : Nat) (W : World) : Prop :=
  W.cell? ⟨B0, 0, none⟩ = some (.string s.name) ∧ W.cell? ⟨B0, 1, none⟩ = some (.int .i64 s.start) ∧ W.cell? ⟨B0, 2, none⟩ = some (.int .i64 s.step) ∧ W.cell? ⟨B0, 3, none⟩ = some (.slice A s.vals.length c) ∧ W.cell? ⟨B0, 4, none⟩ = some (.int .i64 s.cons) ∧ W.cell? ⟨B0 + 1, 0, none⟩ = some (.string ⟨#[]⟩) ∧ W.cell? ⟨B0 + 1, 1, none⟩ = some (.int .i64 0) ∧ W.cell? ⟨B0 + 1, 2, none⟩ = some (.int .i64 0) ∧ W.cell? ⟨B0 + 1, 3, none⟩ = some (.slice none 0 0) ∧ W.cell? ⟨B0 + 1, 4, none⟩ = some (.int .i64 0) ∧ W.frozen? ⟨B0 + 1, 0, none⟩ = false ∧ W.frozen? ⟨B0 + 1, 1, none⟩ = false ∧ W.frozen? ⟨B0 + 1, 2, none⟩ = false ∧ W.frozen? ⟨B0 + 1, 3, none⟩ = false ∧ W.frozen? ⟨B0 + 1, 4, none⟩ = false ∧ B0 + 1 < W.heap.size
theorem FB.gr {s : Sr} {A : Option Addr} {c : Nat} {B0 : Nat} {W W' : World} (h : FB s A c B0 W) (g : Gr W W') : FB s A c B0 W' := by
  obtain ⟨q0, q1, q2, q3, q4, p0, p1, p2, p3, p4, g0, g1, g2, g3, g4, sz⟩ := h
  have h0 : B0 < W.heap.size := by omega
  exact ⟨(g.cell (p := ⟨B0, 0, none⟩) h0).trans q0, (g.cell (p := ⟨B0, 1, none⟩) h0).trans q1, (g.cell (p := ⟨B0, 2, none⟩) h0).trans q2, (g.cell (p := ⟨B0, 3, none⟩) h0).trans q3, (g.cell (p := ⟨B0, 4, none⟩) h0).trans q4, (g.cell (p := ⟨B0 + 1, 0, none⟩) sz).trans p0, (g.cell (p := ⟨B0 + 1, 1, none⟩) sz).trans p1, (g.cell (p := ⟨B0 + 1, 2, none⟩) sz).trans p2, (g.cell (p := ⟨B0 + 1, 3, none⟩) sz).trans p3, (g.cell (p := ⟨B0 + 1, 4, none⟩) sz).trans p4, (g.frozen (p := ⟨B0 + 1, 0, none⟩) sz).trans g0, (g.frozen (p := ⟨B0 + 1, 1, none⟩) sz).trans g1, (g.frozen (p := ⟨B0 + 1, 2, none⟩) sz).trans g2, (g.frozen (p := ⟨B0 + 1, 3, none⟩) sz).trans g3, (g.frozen (p := ⟨B0 + 1, 4, none⟩) sz).trans g4, Nat.lt_of_lt_of_le sz g.size⟩

set_option maxRecDepth 100000 in
set_option maxHeartbeats 3200000 in
theorem shrink_any (s : Sr) (A : Option Addr) (c : Nat) (most : Int) (w : World) (hl : s.vals.length ≤ 1000000) (hcap : s.vals.length ≤ c) (hr : Rv w A s.vals) :
    Calls Try.prog 16 #[.agg #[.string s.name, .int .i64 s.start, .int .i64 s.step, .slice A s.vals.length c, .int .i64 s.cons], .int .i64 most] w (RetS (shrinkS s most) w) := by
  have hl1 : (s.vals.length : Int) ≤ 1000000 := by omega
  have Q := fun w hr => sis_any s A c w hr
  cases hi : isS s
  case false =>
    have hS : shrinkS s most = s := by unfold shrinkS shrinkOk; simp [hi]
    simp only [hi] at Q
    rw [hS]
    clear hS
    go_enter Try.func16, Try.ntmps16
    go_wp2_with fail
    refine (Q _ ?hr).mono ?_
    case hr => exact hr.gr (by repeat (first | exact Gr.refl _ | refine Gr.alloc ?_ _ | refine Gr.drew ?_ | refine Gr.setCell ?_ (by first | (simp; done) | (simp; omega) | omega) _ | refine Gr.trans ?_ (by assumption)))
    rintro e w1 ⟨rfl, hg⟩
    have z1 := hg.size
    simp at z1
    have z0 : w.heap.size < w1.heap.size := by omega
    have z2 : w.heap.size + 1 < w1.heap.size := by omega
    obtain ⟨hc, hf⟩ := hg.cells
    have q0 : w1.cell? ⟨w.heap.size, 0, none⟩ = some (.string s.name) := by go_simp
    have q1 : w1.cell? ⟨w.heap.size, 1, none⟩ = some (.int .i64 s.start) := by go_simp
    have q2 : w1.cell? ⟨w.heap.size, 2, none⟩ = some (.int .i64 s.step) := by go_simp
    have q3 : w1.cell? ⟨w.heap.size, 3, none⟩ = some (.slice A s.vals.length c) := by go_simp
    have q4 : w1.cell? ⟨w.heap.size, 4, none⟩ = some (.int .i64 s.cons) := by go_simp
    have p0 : w1.cell? ⟨w.heap.size + 1, 0, none⟩ = some (.string ⟨#[]⟩) := by go_simp
    have g0 : w1.frozen? ⟨w.heap.size + 1, 0, none⟩ = false := by go_simp
    have p1 : w1.cell? ⟨w.heap.size + 1, 1, none⟩ = some (.int .i64 0) := by go_simp
    have g1 : w1.frozen? ⟨w.heap.size + 1, 1, none⟩ = false := by go_simp
    have p2 : w1.cell? ⟨w.heap.size + 1, 2, none⟩ = some (.int .i64 0) := by go_simp
    have g2 : w1.frozen? ⟨w.heap.size + 1, 2, none⟩ = false := by go_simp
    have p3 : w1.cell? ⟨w.heap.size + 1, 3, none⟩ = some (.slice none 0 0) := by go_simp
    have g3 : w1.frozen? ⟨w.heap.size + 1, 3, none⟩ = false := by go_simp
    have p4 : w1.cell? ⟨w.heap.size + 1, 4, none⟩ = some (.int .i64 0) := by go_simp
    have g4 : w1.frozen? ⟨w.heap.size + 1, 4, none⟩ = false := by go_simp
    have hgw : Gr w w1 := (by repeat (first | exact Gr.refl _ | refine Gr.alloc ?_ _ | refine Gr.drew ?_ | refine Gr.setCell ?_ (by first | (simp; done) | (simp; omega) | omega) _ | refine Gr.trans ?_ (by assumption)))
    clear hc hf hg Q
    go_wp2_with fail
    refine (own_any s A c _ hl (hr.gr hgw)).mono ?_
    rintro e w2 ⟨A', c', rfl, hrv, hg, hnew⟩
    have hgw2 := Gr.trans hgw hg
    replace p0 := (hg.cell (p := ⟨w.heap.size + 1, 0, none⟩) z2).trans p0
    replace g0 := (hg.frozen (p := ⟨w.heap.size + 1, 0, none⟩) z2).trans g0
    replace p1 := (hg.cell (p := ⟨w.heap.size + 1, 1, none⟩) z2).trans p1
    replace g1 := (hg.frozen (p := ⟨w.heap.size + 1, 1, none⟩) z2).trans g1
    replace p2 := (hg.cell (p := ⟨w.heap.size + 1, 2, none⟩) z2).trans p2
    replace g2 := (hg.frozen (p := ⟨w.heap.size + 1, 2, none⟩) z2).trans g2
    replace p3 := (hg.cell (p := ⟨w.heap.size + 1, 3, none⟩) z2).trans p3
    replace g3 := (hg.frozen (p := ⟨w.heap.size + 1, 3, none⟩) z2).trans g3
    replace p4 := (hg.cell (p := ⟨w.heap.size + 1, 4, none⟩) z2).trans p4
    replace g4 := (hg.frozen (p := ⟨w.heap.size + 1, 4, none⟩) z2).trans g4
    have y2 : w.heap.size + 1 < w2.heap.size := Nat.lt_of_lt_of_le z2 hg.size
    have hn1 : ∀ ad, A' = some ad → w.heap.size + 1 < ad.block := fun ad h => by have := hnew ad h; omega
    clear hg hnew q0 q1 q2 q3 q4
    go_wp2
    refine bodyPost_ret (v := .agg #[.string s.name, .int .i64 s.start, .int .i64 s.step, .slice A' s.vals.length c', .int .i64 s.cons]) (by simp [results, Try.results16, go_sem, *]) rfl ⟨A', c', rfl, ?_, ?_, ?_⟩
    · exact (Rv.set (Rv.set (Rv.set (Rv.set (Rv.set hrv _ _ hn1) _ _ hn1) _ _ hn1) _ _ hn1) _ _ hn1)
    · exact (Gr.setCell (Gr.setCell (Gr.setCell (Gr.setCell (Gr.setCell hgw2 (Nat.le_succ _) _) (Nat.le_succ _) _) (Nat.le_succ _) _) (Nat.le_succ _) _) (Nat.le_succ _) _)
    · exact fun ad h => by have := hn1 ad h; omega
  simp only [hi] at Q
  by_cases h1 : 1 ≤ most
  case neg =>
    have hS : shrinkS s most = s := by unfold shrinkS shrinkOk; simp [hi, h1]
    rw [hS]
    clear hS
    go_enter Try.func16, Try.ntmps16
    go_wp2_with fail
    refine (Q _ ?hr).mono ?_
    case hr => exact hr.gr (by repeat (first | exact Gr.refl _ | refine Gr.alloc ?_ _ | refine Gr.drew ?_ | refine Gr.setCell ?_ (by first | (simp; done) | (simp; omega) | omega) _ | refine Gr.trans ?_ (by assumption)))
    rintro e w1 ⟨rfl, hg⟩
    have z1 := hg.size
    simp at z1
    have z0 : w.heap.size < w1.heap.size := by omega
    have z2 : w.heap.size + 1 < w1.heap.size := by omega
    obtain ⟨hc, hf⟩ := hg.cells
    have q0 : w1.cell? ⟨w.heap.size, 0, none⟩ = some (.string s.name) := by go_simp
    have q1 : w1.cell? ⟨w.heap.size, 1, none⟩ = some (.int .i64 s.start) := by go_simp
    have q2 : w1.cell? ⟨w.heap.size, 2, none⟩ = some (.int .i64 s.step) := by go_simp
    have q3 : w1.cell? ⟨w.heap.size, 3, none⟩ = some (.slice A s.vals.length c) := by go_simp
    have q4 : w1.cell? ⟨w.heap.size, 4, none⟩ = some (.int .i64 s.cons) := by go_simp
    have p0 : w1.cell? ⟨w.heap.size + 1, 0, none⟩ = some (.string ⟨#[]⟩) := by go_simp
    have g0 : w1.frozen? ⟨w.heap.size + 1, 0, none⟩ = false := by go_simp
    have p1 : w1.cell? ⟨w.heap.size + 1, 1, none⟩ = some (.int .i64 0) := by go_simp
    have g1 : w1.frozen? ⟨w.heap.size + 1, 1, none⟩ = false := by go_simp
    have p2 : w1.cell? ⟨w.heap.size + 1, 2, none⟩ = some (.int .i64 0) := by go_simp
    have g2 : w1.frozen? ⟨w.heap.size + 1, 2, none⟩ = false := by go_simp
    have p3 : w1.cell? ⟨w.heap.size + 1, 3, none⟩ = some (.slice none 0 0) := by go_simp
    have g3 : w1.frozen? ⟨w.heap.size + 1, 3, none⟩ = false := by go_simp
    have p4 : w1.cell? ⟨w.heap.size + 1, 4, none⟩ = some (.int .i64 0) := by go_simp
    have g4 : w1.frozen? ⟨w.heap.size + 1, 4, none⟩ = false := by go_simp
    have hgw : Gr w w1 := (by repeat (first | exact Gr.refl _ | refine Gr.alloc ?_ _ | refine Gr.drew ?_ | refine Gr.setCell ?_ (by first | (simp; done) | (simp; omega) | omega) _ | refine Gr.trans ?_ (by assumption)))
    clear hc hf hg Q
    go_wp2_with fail
    refine (own_any s A c _ hl (hr.gr hgw)).mono ?_
    rintro e w2 ⟨A', c', rfl, hrv, hg, hnew⟩
    have hgw2 := Gr.trans hgw hg
    replace p0 := (hg.cell (p := ⟨w.heap.size + 1, 0, none⟩) z2).trans p0
    replace g0 := (hg.frozen (p := ⟨w.heap.size + 1, 0, none⟩) z2).trans g0
    replace p1 := (hg.cell (p := ⟨w.heap.size + 1, 1, none⟩) z2).trans p1
    replace g1 := (hg.frozen (p := ⟨w.heap.size + 1, 1, none⟩) z2).trans g1
    replace p2 := (hg.cell (p := ⟨w.heap.size + 1, 2, none⟩) z2).trans p2
    replace g2 := (hg.frozen (p := ⟨w.heap.size + 1, 2, none⟩) z2).trans g2
    replace p3 := (hg.cell (p := ⟨w.heap.size + 1, 3, none⟩) z2).trans p3
    replace g3 := (hg.frozen (p := ⟨w.heap.size + 1, 3, none⟩) z2).trans g3
    replace p4 := (hg.cell (p := ⟨w.heap.size + 1, 4, none⟩) z2).trans p4
    replace g4 := (hg.frozen (p := ⟨w.heap.size + 1, 4, none⟩) z2).trans g4
    have y2 : w.heap.size + 1 < w2.heap.size := Nat.lt_of_lt_of_le z2 hg.size
    have hn1 : ∀ ad, A' = some ad → w.heap.size + 1 < ad.block := fun ad h => by have := hnew ad h; omega
    clear hg hnew q0 q1 q2 q3 q4
    go_wp2
    refine bodyPost_ret (v := .agg #[.string s.name, .int .i64 s.start, .int .i64 s.step, .slice A' s.vals.length c', .int .i64 s.cons]) (by simp [results, Try.results16, go_sem, *]) rfl ⟨A', c', rfl, ?_, ?_, ?_⟩
    · exact (Rv.set (Rv.set (Rv.set (Rv.set (Rv.set hrv _ _ hn1) _ _ hn1) _ _ hn1) _ _ hn1) _ _ hn1)
    · exact (Gr.setCell (Gr.setCell (Gr.setCell (Gr.setCell (Gr.setCell hgw2 (Nat.le_succ _) _) (Nat.le_succ _) _) (Nat.le_succ _) _) (Nat.le_succ _) _) (Nat.le_succ _) _)
    · exact fun ad h => by have := hn1 ad h; omega
  by_cases h2 : most < (s.vals.length : Int)
  case neg =>
    have hS : shrinkS s most = s := by unfold shrinkS shrinkOk; simp [hi, h2]
    rw [hS]
    clear hS
    go_enter Try.func16, Try.ntmps16
    go_wp2_with fail
    refine (Q _ ?hr).mono ?_
    case hr => exact hr.gr (by repeat (first | exact Gr.refl _ | refine Gr.alloc ?_ _ | refine Gr.drew ?_ | refine Gr.setCell ?_ (by first | (simp; done) | (simp; omega) | omega) _ | refine Gr.trans ?_ (by assumption)))
    rintro e w1 ⟨rfl, hg⟩
    have z1 := hg.size
    simp at z1
    have z0 : w.heap.size < w1.heap.size := by omega
    have z2 : w.heap.size + 1 < w1.heap.size := by omega
    obtain ⟨hc, hf⟩ := hg.cells
    have q0 : w1.cell? ⟨w.heap.size, 0, none⟩ = some (.string s.name) := by go_simp
    have q1 : w1.cell? ⟨w.heap.size, 1, none⟩ = some (.int .i64 s.start) := by go_simp
    have q2 : w1.cell? ⟨w.heap.size, 2, none⟩ = some (.int .i64 s.step) := by go_simp
    have q3 : w1.cell? ⟨w.heap.size, 3, none⟩ = some (.slice A s.vals.length c) := by go_simp
    have q4 : w1.cell? ⟨w.heap.size, 4, none⟩ = some (.int .i64 s.cons) := by go_simp
    have p0 : w1.cell? ⟨w.heap.size + 1, 0, none⟩ = some (.string ⟨#[]⟩) := by go_simp
    have g0 : w1.frozen? ⟨w.heap.size + 1, 0, none⟩ = false := by go_simp
    have p1 : w1.cell? ⟨w.heap.size + 1, 1, none⟩ = some (.int .i64 0) := by go_simp
    have g1 : w1.frozen? ⟨w.heap.size + 1, 1, none⟩ = false := by go_simp
    have p2 : w1.cell? ⟨w.heap.size + 1, 2, none⟩ = some (.int .i64 0) := by go_simp
    have g2 : w1.frozen? ⟨w.heap.size + 1, 2, none⟩ = false := by go_simp
    have p3 : w1.cell? ⟨w.heap.size + 1, 3, none⟩ = some (.slice none 0 0) := by go_simp
    have g3 : w1.frozen? ⟨w.heap.size + 1, 3, none⟩ = false := by go_simp
    have p4 : w1.cell? ⟨w.heap.size + 1, 4, none⟩ = some (.int .i64 0) := by go_simp
    have g4 : w1.frozen? ⟨w.heap.size + 1, 4, none⟩ = false := by go_simp
    have hgw : Gr w w1 := (by repeat (first | exact Gr.refl _ | refine Gr.alloc ?_ _ | refine Gr.drew ?_ | refine Gr.setCell ?_ (by first | (simp; done) | (simp; omega) | omega) _ | refine Gr.trans ?_ (by assumption)))
    clear hc hf hg Q
    go_wp2_with fail
    refine (own_any s A c _ hl (hr.gr hgw)).mono ?_
    rintro e w2 ⟨A', c', rfl, hrv, hg, hnew⟩
    have hgw2 := Gr.trans hgw hg
    replace p0 := (hg.cell (p := ⟨w.heap.size + 1, 0, none⟩) z2).trans p0
    replace g0 := (hg.frozen (p := ⟨w.heap.size + 1, 0, none⟩) z2).trans g0
    replace p1 := (hg.cell (p := ⟨w.heap.size + 1, 1, none⟩) z2).trans p1
    replace g1 := (hg.frozen (p := ⟨w.heap.size + 1, 1, none⟩) z2).trans g1
    replace p2 := (hg.cell (p := ⟨w.heap.size + 1, 2, none⟩) z2).trans p2
    replace g2 := (hg.frozen (p := ⟨w.heap.size + 1, 2, none⟩) z2).trans g2
    replace p3 := (hg.cell (p := ⟨w.heap.size + 1, 3, none⟩) z2).trans p3
    replace g3 := (hg.frozen (p := ⟨w.heap.size + 1, 3, none⟩) z2).trans g3
    replace p4 := (hg.cell (p := ⟨w.heap.size + 1, 4, none⟩) z2).trans p4
    replace g4 := (hg.frozen (p := ⟨w.heap.size + 1, 4, none⟩) z2).trans g4
    have y2 : w.heap.size + 1 < w2.heap.size := Nat.lt_of_lt_of_le z2 hg.size
    have hn1 : ∀ ad, A' = some ad → w.heap.size + 1 < ad.block := fun ad h => by have := hnew ad h; omega
    clear hg hnew q0 q1 q2 q3 q4
    go_wp2
    refine bodyPost_ret (v := .agg #[.string s.name, .int .i64 s.start, .int .i64 s.step, .slice A' s.vals.length c', .int .i64 s.cons]) (by simp [results, Try.results16, go_sem, *]) rfl ⟨A', c', rfl, ?_, ?_, ?_⟩
    · exact (Rv.set (Rv.set (Rv.set (Rv.set (Rv.set hrv _ _ hn1) _ _ hn1) _ _ hn1) _ _ hn1) _ _ hn1)
    · exact (Gr.setCell (Gr.setCell (Gr.setCell (Gr.setCell (Gr.setCell hgw2 (Nat.le_succ _) _) (Nat.le_succ _) _) (Nat.le_succ _) _) (Nat.le_succ _) _) (Nat.le_succ _) _)
    · exact fun ad h => by have := hn1 ad h; omega
  have ho := (isS_iff s).1 hi
  have b0 := ho.s0; have b1 := ho.s1; have b2 := ho.p0; have b3 := ho.p1; have b4 := ho.len
  have hn0 : (0 : Int) ≤ (s.vals.length : Int) := by omega
  obtain ⟨u0, u1, u2⟩ := upI_facts hn0 h1
  have HU := Lib.hid (fun w => up_any (s.vals.length : Int) most w (by omega) (by omega) h1 (by omega))
  obtain ⟨k, hk⟩ : ∃ k, upI (s.vals.length : Int) most = k := ⟨_, rfl⟩
  rw [hk] at HU u0 u1 u2
  have k1 : 1 ≤ k := by
    rcases Int.lt_or_le 0 k with h | h
    · omega
    · exfalso
      have : k = 0 := by omega
      rw [this, Int.zero_mul] at u1
      omega
  have k2 : k ≤ 262144 := by
    have : k * 1 ≤ k * most := Int.mul_le_mul_of_nonneg_left h1 (by omega)
    omega
  have d0 : 0 ≤ Int.tdiv 1099511627776 k := Int.tdiv_nonneg (by omega) (by omega)
  have dq : Int.tdiv 1099511627776 k = 1099511627776 / k := Int.tdiv_eq_ediv_of_nonneg (by omega)
  have d1 : Int.tdiv 1099511627776 k ≤ 1099511627776 := by rw [dq]; exact Int.ediv_le_self _ (by omega)
  have hb : k ≠ 0 := by omega
  have hb' : (k == 0) = false := by simp [hb]
  have hso : shrinkOk s most = true := by unfold shrinkOk; simp [hi, h1, h2]
  have HS : Hid (shrinkS s most = if Int.tdiv 1099511627776 k < s.step then s else fitS s s.start (k * s.step) (upI (s.vals.length : Int) k)) := Lib.hid (by unfold shrinkS; rw [if_pos hso, hk, dq])
  have HDQ := Lib.hid dq
  clear dq hso hk ho u1 u2
  by_cases h3 : Int.tdiv 1099511627776 k < s.step
  case pos =>
    have hS : shrinkS s most = s := by rw [HS.out, if_pos h3]
    rw [hS]
    clear hS
    go_enter Try.func16, Try.ntmps16
    go_wp2_with fail
    refine (Q _ ?hr).mono ?_
    case hr => exact hr.gr (by repeat (first | exact Gr.refl _ | refine Gr.alloc ?_ _ | refine Gr.drew ?_ | refine Gr.setCell ?_ (by first | (simp; done) | (simp; omega) | omega) _ | refine Gr.trans ?_ (by assumption)))
    rintro e w1 ⟨rfl, hg⟩
    have z1 := hg.size
    simp at z1
    have z0 : w.heap.size < w1.heap.size := by omega
    have z2 : w.heap.size + 1 < w1.heap.size := by omega
    obtain ⟨hc, hf⟩ := hg.cells
    have q0 : w1.cell? ⟨w.heap.size, 0, none⟩ = some (.string s.name) := by go_simp
    have q1 : w1.cell? ⟨w.heap.size, 1, none⟩ = some (.int .i64 s.start) := by go_simp
    have q2 : w1.cell? ⟨w.heap.size, 2, none⟩ = some (.int .i64 s.step) := by go_simp
    have q3 : w1.cell? ⟨w.heap.size, 3, none⟩ = some (.slice A s.vals.length c) := by go_simp
    have q4 : w1.cell? ⟨w.heap.size, 4, none⟩ = some (.int .i64 s.cons) := by go_simp
    have p0 : w1.cell? ⟨w.heap.size + 1, 0, none⟩ = some (.string ⟨#[]⟩) := by go_simp
    have g0 : w1.frozen? ⟨w.heap.size + 1, 0, none⟩ = false := by go_simp
    have p1 : w1.cell? ⟨w.heap.size + 1, 1, none⟩ = some (.int .i64 0) := by go_simp
    have g1 : w1.frozen? ⟨w.heap.size + 1, 1, none⟩ = false := by go_simp
    have p2 : w1.cell? ⟨w.heap.size + 1, 2, none⟩ = some (.int .i64 0) := by go_simp
    have g2 : w1.frozen? ⟨w.heap.size + 1, 2, none⟩ = false := by go_simp
    have p3 : w1.cell? ⟨w.heap.size + 1, 3, none⟩ = some (.slice none 0 0) := by go_simp
    have g3 : w1.frozen? ⟨w.heap.size + 1, 3, none⟩ = false := by go_simp
    have p4 : w1.cell? ⟨w.heap.size + 1, 4, none⟩ = some (.int .i64 0) := by go_simp
    have g4 : w1.frozen? ⟨w.heap.size + 1, 4, none⟩ = false := by go_simp
    have hgw : Gr w w1 := (by repeat (first | exact Gr.refl _ | refine Gr.alloc ?_ _ | refine Gr.drew ?_ | refine Gr.setCell ?_ (by first | (simp; done) | (simp; omega) | omega) _ | refine Gr.trans ?_ (by assumption)))
    clear hc hf hg Q
    go_wp2_with fail
    refine (HU.out _).mono ?_
    rintro e w3 ⟨rfl, hg⟩
    have FBx : FB s A c w.heap.size w1 := ⟨q0, q1, q2, q3, q4, p0, p1, p2, p3, p4, g0, g1, g2, g3, g4, z2⟩
    have FBy := FBx.gr hg
    replace hgw := Gr.trans hgw hg
    clear FBx q0 q1 q2 q3 q4 p0 p1 p2 p3 p4 g0 g1 g2 g3 g4 z0 z1 z2 hg
    obtain ⟨q0, q1, q2, q3, q4, p0, p1, p2, p3, p4, g0, g1, g2, g3, g4, sz⟩ := id FBy
    have z0 : w.heap.size < w3.heap.size := by omega
    go_wp2
    go_quiet (fail)
    have FBz := FBy.gr (Gr.drewN (Gr.refl w3) nq)
    replace hgw := Gr.drewN hgw nq
    generalize w3.drewN nq = w4 at FBz hgw ⊢
    clear FBy q0 q1 q2 q3 q4 p0 p1 p2 p3 p4 g0 g1 g2 g3 g4 sz z0
    obtain ⟨q0, q1, q2, q3, q4, p0, p1, p2, p3, p4, g0, g1, g2, g3, g4, sz⟩ := FBz
    have z2 := sz
    go_wp2_with fail
    refine (own_any s A c _ hl (hr.gr hgw)).mono ?_
    rintro e w2 ⟨A', c', rfl, hrv, hg, hnew⟩
    have hgw2 := Gr.trans hgw hg
    replace p0 := (hg.cell (p := ⟨w.heap.size + 1, 0, none⟩) z2).trans p0
    replace g0 := (hg.frozen (p := ⟨w.heap.size + 1, 0, none⟩) z2).trans g0
    replace p1 := (hg.cell (p := ⟨w.heap.size + 1, 1, none⟩) z2).trans p1
    replace g1 := (hg.frozen (p := ⟨w.heap.size + 1, 1, none⟩) z2).trans g1
    replace p2 := (hg.cell (p := ⟨w.heap.size + 1, 2, none⟩) z2).trans p2
    replace g2 := (hg.frozen (p := ⟨w.heap.size + 1, 2, none⟩) z2).trans g2
    replace p3 := (hg.cell (p := ⟨w.heap.size + 1, 3, none⟩) z2).trans p3
    replace g3 := (hg.frozen (p := ⟨w.heap.size + 1, 3, none⟩) z2).trans g3
    replace p4 := (hg.cell (p := ⟨w.heap.size + 1, 4, none⟩) z2).trans p4
    replace g4 := (hg.frozen (p := ⟨w.heap.size + 1, 4, none⟩) z2).trans g4
    have y2 : w.heap.size + 1 < w2.heap.size := Nat.lt_of_lt_of_le z2 hg.size
    have hn1 : ∀ ad, A' = some ad → w.heap.size + 1 < ad.block := fun ad h => by have := hnew ad h; omega
    clear hg hnew q0 q1 q2 q3 q4
    go_wp2
    refine bodyPost_ret (v := .agg #[.string s.name, .int .i64 s.start, .int .i64 s.step, .slice A' s.vals.length c', .int .i64 s.cons]) (by simp [results, Try.results16, go_sem, *]) rfl ⟨A', c', rfl, ?_, ?_, ?_⟩
    · exact (Rv.set (Rv.set (Rv.set (Rv.set (Rv.set hrv _ _ hn1) _ _ hn1) _ _ hn1) _ _ hn1) _ _ hn1)
    · exact (Gr.setCell (Gr.setCell (Gr.setCell (Gr.setCell (Gr.setCell hgw2 (Nat.le_succ _) _) (Nat.le_succ _) _) (Nat.le_succ _) _) (Nat.le_succ _) _) (Nat.le_succ _) _)
    · exact fun ad h => by have := hn1 ad h; omega
  have hS : shrinkS s most = fitS s s.start (k * s.step) (upI (s.vals.length : Int) k) := by rw [HS.out, if_neg h3]
  rw [hS]
  clear hS
  have hks : k * s.step ≤ 1099511627776 := by
    have h := HDQ.out
    have h4 : s.step ≤ 1099511627776 / k := by omega
    have h5 := (Int.le_ediv_iff_mul_le (by omega)).1 h4
    rw [Int.mul_comm] at h5
    exact h5
  have hks0 : 0 ≤ k * s.step := Int.mul_nonneg (by omega) (by omega)
  have hwr : IntKind.i64.wrap (k * s.step) = k * s.step := IntWalk.i64_in _ (by omega)
  have HU2 := Lib.hid (fun w => up_any (s.vals.length : Int) k w (by omega) (by omega) k1 (by omega))
  obtain ⟨m, hm⟩ : ∃ m, upI (s.vals.length : Int) k = m := ⟨_, rfl⟩
  rw [hm] at HU2 ⊢
  clear hm
  obtain ⟨T, hT⟩ : ∃ T, fitS s s.start (k * s.step) m = T := ⟨_, rfl⟩
  have HFT : Hid (∀ w, Rv w A s.vals → Calls Try.prog 13 #[.agg #[.string s.name, .int .i64 s.start, .int .i64 s.step, .slice A s.vals.length c, .int .i64 s.cons], .int .i64 s.start, .int .i64 (k * s.step), .int .i64 m] w (RetS T w)) := Lib.hid (fun w hr => by rw [← hT]; exact fit_any s A c s.start (k * s.step) m w hl hcap hr)
  rw [hT]
  clear hT
  go_enter Try.func16, Try.ntmps16
  go_wp2_with fail
  refine (Q _ ?hr).mono ?_
  case hr => exact hr.gr (by repeat (first | exact Gr.refl _ | refine Gr.alloc ?_ _ | refine Gr.drew ?_ | refine Gr.setCell ?_ (by first | (simp; done) | (simp; omega) | omega) _ | refine Gr.trans ?_ (by assumption)))
  rintro e w1 ⟨rfl, hg⟩
  have z1 := hg.size
  simp at z1
  have z0 : w.heap.size < w1.heap.size := by omega
  have z2 : w.heap.size + 1 < w1.heap.size := by omega
  obtain ⟨hc, hf⟩ := hg.cells
  have q0 : w1.cell? ⟨w.heap.size, 0, none⟩ = some (.string s.name) := by go_simp
  have q1 : w1.cell? ⟨w.heap.size, 1, none⟩ = some (.int .i64 s.start) := by go_simp
  have q2 : w1.cell? ⟨w.heap.size, 2, none⟩ = some (.int .i64 s.step) := by go_simp
  have q3 : w1.cell? ⟨w.heap.size, 3, none⟩ = some (.slice A s.vals.length c) := by go_simp
  have q4 : w1.cell? ⟨w.heap.size, 4, none⟩ = some (.int .i64 s.cons) := by go_simp
  have p0 : w1.cell? ⟨w.heap.size + 1, 0, none⟩ = some (.string ⟨#[]⟩) := by go_simp
  have g0 : w1.frozen? ⟨w.heap.size + 1, 0, none⟩ = false := by go_simp
  have p1 : w1.cell? ⟨w.heap.size + 1, 1, none⟩ = some (.int .i64 0) := by go_simp
  have g1 : w1.frozen? ⟨w.heap.size + 1, 1, none⟩ = false := by go_simp
  have p2 : w1.cell? ⟨w.heap.size + 1, 2, none⟩ = some (.int .i64 0) := by go_simp
  have g2 : w1.frozen? ⟨w.heap.size + 1, 2, none⟩ = false := by go_simp
  have p3 : w1.cell? ⟨w.heap.size + 1, 3, none⟩ = some (.slice none 0 0) := by go_simp
  have g3 : w1.frozen? ⟨w.heap.size + 1, 3, none⟩ = false := by go_simp
  have p4 : w1.cell? ⟨w.heap.size + 1, 4, none⟩ = some (.int .i64 0) := by go_simp
  have g4 : w1.frozen? ⟨w.heap.size + 1, 4, none⟩ = false := by go_simp
  have hgw : Gr w w1 := (by repeat (first | exact Gr.refl _ | refine Gr.alloc ?_ _ | refine Gr.drew ?_ | refine Gr.setCell ?_ (by first | (simp; done) | (simp; omega) | omega) _ | refine Gr.trans ?_ (by assumption)))
  clear hc hf hg Q
  go_wp2_with fail
  refine (HU.out _).mono ?_
  rintro e w3 ⟨rfl, hg⟩
  have FBx : FB s A c w.heap.size w1 := ⟨q0, q1, q2, q3, q4, p0, p1, p2, p3, p4, g0, g1, g2, g3, g4, z2⟩
  have FBy := FBx.gr hg
  replace hgw := Gr.trans hgw hg
  clear FBx q0 q1 q2 q3 q4 p0 p1 p2 p3 p4 g0 g1 g2 g3 g4 z0 z1 z2 hg
  obtain ⟨q0, q1, q2, q3, q4, p0, p1, p2, p3, p4, g0, g1, g2, g3, g4, sz⟩ := id FBy
  have z0 : w.heap.size < w3.heap.size := by omega
  go_wp2
  go_quiet (fail)
  have FBz := FBy.gr (Gr.drewN (Gr.refl w3) nq)
  replace hgw := Gr.drewN hgw nq
  generalize w3.drewN nq = w4 at FBz hgw ⊢
  clear FBy q0 q1 q2 q3 q4 p0 p1 p2 p3 p4 g0 g1 g2 g3 g4 sz z0
  go_wp2
  have hS0 : FB s A c w.heap.size w4.drew := FBz.gr (Gr.drew (Gr.refl _))
  have gV0 : Gr w w4.drew := Gr.drew hgw
  obtain ⟨V, hV⟩ : ∃ V, V = w4.drew := ⟨_, rfl⟩
  refine wp_region_Z 13 (FB s A c w.heap.size) (by kernel_rfl) ?_
  rw [← hV] at hS0 gV0 ⊢
  clear FBz hgw hV
  refine wpAnyZ_take (i := 0) (v := ?v19) rfl (by kernel_rfl) (fun _ _ _ h => h) (by rfl) (fun W hS => ?h19) hS0 ?r19
  case h19 =>
    obtain ⟨q0, q1, q2, q3, q4, p0, p1, p2, p3, p4, g0, g1, g2, g3, g4, sz⟩ := hS
    go_simp
    rfl
  simp only [Act.put, List.setIfInBounds_toArray, List.set_cons_zero, List.set_cons_succ]
  refine wpAnyZ_take (i := 1) (v := ?v20) rfl (by kernel_rfl) (fun _ _ _ h => h) (by rfl) (fun W hS => ?h20) hS0 ?r20
  case h20 =>
    obtain ⟨q0, q1, q2, q3, q4, p0, p1, p2, p3, p4, g0, g1, g2, g3, g4, sz⟩ := hS
    go_simp
    rfl
  simp only [Act.put, List.setIfInBounds_toArray, List.set_cons_zero, List.set_cons_succ]
  refine wpAnyZ_take (i := 2) (v := ?v21) rfl (by kernel_rfl) (fun _ _ _ h => h) (by rfl) (fun W hS => ?h21) hS0 ?r21
  case h21 =>
    obtain ⟨q0, q1, q2, q3, q4, p0, p1, p2, p3, p4, g0, g1, g2, g3, g4, sz⟩ := hS
    go_simp
    rfl
  simp only [Act.put, List.setIfInBounds_toArray, List.set_cons_zero, List.set_cons_succ]
  refine wpAnyZ_take (i := 3) (v := ?v22) rfl (by kernel_rfl) (fun _ _ _ h => h) (by rfl) (fun W hS => ?h22) hS0 ?r22
  case h22 =>
    obtain ⟨q0, q1, q2, q3, q4, p0, p1, p2, p3, p4, g0, g1, g2, g3, g4, sz⟩ := hS
    go_simp
    rfl
  simp only [Act.put, List.setIfInBounds_toArray, List.set_cons_zero, List.set_cons_succ]
  refine wpAnyZ_take (i := 4) (v := ?v23) rfl (by kernel_rfl) (fun _ _ _ h => h) (by rfl) (fun W hS => ?h23) hS0 ?r23
  case h23 =>
    obtain ⟨q0, q1, q2, q3, q4, p0, p1, p2, p3, p4, g0, g1, g2, g3, g4, sz⟩ := hS
    go_simp
    rfl
  simp only [Act.put, List.setIfInBounds_toArray, List.set_cons_zero, List.set_cons_succ]
  refine wpAnyZ_take (i := 5) (v := ?v24) rfl (by kernel_rfl) (fun _ _ _ h => h) (by rfl) (fun W hS => ?h24) hS0 ?r24
  case h24 =>
    obtain ⟨q0, q1, q2, q3, q4, p0, p1, p2, p3, p4, g0, g1, g2, g3, g4, sz⟩ := hS
    go_simp
    rfl
  simp only [Act.put, List.setIfInBounds_toArray, List.set_cons_zero, List.set_cons_succ]
  refine wpAnyZ_take (i := 6) (v := ?v25) rfl (by kernel_rfl) (fun _ _ _ h => h) (by rfl) (fun W hS => ?h25) hS0 ?r25
  case h25 =>
    obtain ⟨q0, q1, q2, q3, q4, p0, p1, p2, p3, p4, g0, g1, g2, g3, g4, sz⟩ := hS
    go_simp
    rfl
  simp only [Act.put, List.setIfInBounds_toArray, List.set_cons_zero, List.set_cons_succ]
  refine wpAnyZ_take (i := 7) (v := ?v26) rfl (by kernel_rfl) (fun _ _ _ h => h) (by rfl) (fun W hS => ?h26) hS0 ?r26
  case h26 =>
    obtain ⟨q0, q1, q2, q3, q4, p0, p1, p2, p3, p4, g0, g1, g2, g3, g4, sz⟩ := hS
    go_simp
    rfl
  simp only [Act.put, List.setIfInBounds_toArray, List.set_cons_zero, List.set_cons_succ]
  refine wpAnyZ_take (i := 8) (v := ?v27) rfl (by kernel_rfl) (fun _ _ _ h => h) (by rfl) (fun W hS => ?h27) hS0 ?r27
  case h27 =>
    obtain ⟨q0, q1, q2, q3, q4, p0, p1, p2, p3, p4, g0, g1, g2, g3, g4, sz⟩ := hS
    go_simp
    rfl
  simp only [Act.put, List.setIfInBounds_toArray, List.set_cons_zero, List.set_cons_succ]
  refine wpAnyZ_take (i := 9) (v := ?v28) rfl (by kernel_rfl) (fun _ _ _ h => h) (by rfl) (fun W hS => ?h28) hS0 ?r28
  case h28 =>
    obtain ⟨q0, q1, q2, q3, q4, p0, p1, p2, p3, p4, g0, g1, g2, g3, g4, sz⟩ := hS
    go_simp
    rfl
  simp only [Act.put, List.setIfInBounds_toArray, List.set_cons_zero, List.set_cons_succ]
  refine wpAnyZ_take (i := 10) (v := ?v29) rfl (by kernel_rfl) (fun _ _ _ h => h) (by rfl) (fun W hS => ?h29) hS0 ?r29
  case h29 =>
    obtain ⟨q0, q1, q2, q3, q4, p0, p1, p2, p3, p4, g0, g1, g2, g3, g4, sz⟩ := hS
    go_simp
    rfl
  simp only [Act.put, List.setIfInBounds_toArray, List.set_cons_zero, List.set_cons_succ]
  refine wpAnyZ_ready (rs := [11]) (by kernel_rfl) (by simp) ?_
  refine AllReadyZ.cons rfl (by rfl) (fun K hK => ?_) ?_
  rotate_left
  exact AllReadyZ.nil
  go_simp
  refine (HU2.out _).mono ?_; rintro e w5 ⟨rfl, hg5⟩
  have gV5 := Gr.trans gV0 hg5
  have hS5 := hS0.gr hg5
  go_wp2_with fail
  refine hK.out _ _ (fun hnz => ?s16) (fun _ => ?r16)
  case s16 => exact hS5
  clear hK K
  try simp only [Act.put, List.setIfInBounds_toArray, List.set_cons_zero, List.set_cons_succ]
  refine wpAnyZ_ready (rs := [12]) (by kernel_rfl) (by simp) ?_
  refine AllReadyZ.cons rfl (by rfl) (fun K hK => ?_) ?_
  rotate_left
  exact AllReadyZ.nil
  go_simp
  refine (HFT.out _ (hr.gr gV5)).mono ?_; rintro e w6 ⟨A3, c3, rfl, hrv, hg6, hnew⟩
  have gV6 := Gr.trans gV5 hg6
  have hS6 := hS5.gr hg6
  have hn1 : ∀ ad, A3 = some ad → w.heap.size + 1 < ad.block := fun ad h => by have := hnew ad h; obtain ⟨_, _, _, _, _, _, _, _, _, _, _, _, _, _, _, sz⟩ := hS5; omega
  go_wp2_with fail
  refine hK.out _ _ (fun hnz => ?s17) (fun _ => ?r17)
  case s17 => exact hS6
  clear hK K
  try simp only [Act.put, List.setIfInBounds_toArray, List.set_cons_zero, List.set_cons_succ]
  refine wpAnyZ_ready (rs := [13]) (by kernel_rfl) (by simp) ?_
  refine AllReadyZ.cons rfl (by rfl) (fun K hK => ?_) ?_
  rotate_left
  exact AllReadyZ.nil
  obtain ⟨q0, q1, q2, q3, q4, p0, p1, p2, p3, p4, g0, g1, g2, g3, g4, sz⟩ := hS6
  go_simp
  refine hK.out _ _ (fun hnz => ?s18) (fun _ => ?r18)
  case s18 => exact absurd rfl hnz
  clear hK K
  try simp only [Act.put, List.setIfInBounds_toArray, List.set_cons_zero, List.set_cons_succ]
  refine wpAnyZ_done (by kernel_rfl) ?_ _
  go_wp2
  refine bodyPost_ret (v := .agg #[.string T.name, .int .i64 T.start, .int .i64 T.step, .slice A3 T.vals.length c3, .int .i64 T.cons]) (by simp [results, Try.results16, go_sem, *]) rfl ⟨A3, c3, rfl, ?_, ?_, ?_⟩
  · exact (Rv.set (Rv.set (Rv.set (Rv.set (Rv.set hrv _ _ hn1) _ _ hn1) _ _ hn1) _ _ hn1) _ _ hn1)
  · exact (Gr.setCell (Gr.setCell (Gr.setCell (Gr.setCell (Gr.setCell gV6 (Nat.le_succ _) _) (Nat.le_succ _) _) (Nat.le_succ _) _) (Nat.le_succ _) _) (Nat.le_succ _) _)
  · exact fun ad h => by have := hn1 ad h; omega
end Go.Proofs.Ytoikpkgogncdhaa
