/- The contract of series.Fit: a series at other times. -/
import Derived.Test.YtoikpkgogncdhaaSrFitB
import Derived.Test.YtoikpkgogncdhaaAgOf
import Derived.Test.YtoikpkgogncdhaaSrIs
namespace Go.Proofs.Ytoikpkgogncdhaa
set_option linter.unusedVariables false
set_option linter.unusedSimpArgs false
open Go.RowKit

set_option maxRecDepth 100000 in
set_option maxHeartbeats 3200000 in
theorem fit_good (s : Sr) (A : Option Addr) (c : Nat) (start step : Int) (n : Nat) (w : World) (hcap : s.vals.length ≤ c) (hr : Rv w A s.vals) (ho : Ok s)
    (h_s1 : 1 ≤ step) (h_s2 : step ≤ 1099511627776) (h_n2 : (n : Int) ≤ 131072) (h_t1 : 0 ≤ start) (h_t2 : start ≤ 4294967295) :
    Calls Try.prog 13 #[.agg #[.string s.name, .int .i64 s.start, .int .i64 s.step, .slice A s.vals.length c, .int .i64 s.cons], .int .i64 start, .int .i64 step, .int .i64 (n : Nat)] w (RetS ⟨s.name, start, step, fitL s start step n, s.cons⟩ w) := by
  obtain ⟨i0, hi0, hz0, hz1, hz2⟩ := info_parts info_val
  have hlen := ho.len
  have Q := fun w hr => sis_any s A c w hr
  simp only [(isS_iff s).2 ho] at Q
  go_enter Try.func13, Try.ntmps13
  go_wp2_with fail
  refine (Q _ ?hr).mono ?_
  case hr => exact hr.gr (by repeat (first | exact Gr.refl _ | refine Gr.alloc ?_ _ | refine Gr.drew ?_ | refine Gr.setCell ?_ (by first | (simp; done) | (simp; omega) | omega) _ | refine Gr.trans ?_ (by assumption)))
  rintro e w1 ⟨rfl, hg⟩
  have z1 := hg.size
  simp at z1
  have hz : w.heap.size + 1 < w1.heap.size := by omega
  have z0 : w.heap.size < w1.heap.size := by omega
  obtain ⟨hc, hf⟩ := hg.cells
  have q0 : w1.cell? ⟨w.heap.size, 0, none⟩ = some (.string s.name) := by go_simp
  have q1 : w1.cell? ⟨w.heap.size, 1, none⟩ = some (.int .i64 s.start) := by go_simp
  have q2 : w1.cell? ⟨w.heap.size, 2, none⟩ = some (.int .i64 s.step) := by go_simp
  have q3 : w1.cell? ⟨w.heap.size, 3, none⟩ = some (.slice A s.vals.length c) := by go_simp
  have q4 : w1.cell? ⟨w.heap.size, 4, none⟩ = some (.int .i64 s.cons) := by go_simp
  have p0 : w1.cell? ⟨w.heap.size + 1, 0, none⟩ = some (.string ⟨#[]⟩) := by go_simp
  have g0 : w1.frozen? ⟨w.heap.size + 1, 0, none⟩ = false := by go_simp
  have p1 : w1.cell? ⟨w.heap.size + 1, 1, none⟩ = some (.int .i64 0) := by go_simp
  have g1 : w1.frozen? ⟨w.heap.size + 1, 1, none⟩ = false := by go_simp
  have p2 : w1.cell? ⟨w.heap.size + 1, 2, none⟩ = some (.int .i64 0) := by go_simp
  have g2 : w1.frozen? ⟨w.heap.size + 1, 2, none⟩ = false := by go_simp
  have p3 : w1.cell? ⟨w.heap.size + 1, 3, none⟩ = some (.slice none 0 0) := by go_simp
  have g3 : w1.frozen? ⟨w.heap.size + 1, 3, none⟩ = false := by go_simp
  have p4 : w1.cell? ⟨w.heap.size + 1, 4, none⟩ = some (.int .i64 0) := by go_simp
  have g4 : w1.frozen? ⟨w.heap.size + 1, 4, none⟩ = false := by go_simp
  have hgw : Gr w w1 := (by repeat (first | exact Gr.refl _ | refine Gr.alloc ?_ _ | refine Gr.drew ?_ | refine Gr.setCell ?_ (by first | (simp; done) | (simp; omega) | omega) _ | refine Gr.trans ?_ (by assumption)))
  clear hc hf hg Q
  go_wp2
  go_loopw [10, 11, 49] (fun _ _ i wr => ∃ (k : Nat) (A' : Option Addr) (c' : Nat), k ≤ n ∧ i = .int .i64 k ∧ Gr w wr ∧ FC s A c start step w.heap.size w1.heap.size A' k c' wr ∧ wr.ownsRow (w1.heap.size + 1) 34 2 (.slice A' k c') k (vcells (fitL s start step k))) (fun _ _ i _ => n - (intOf i).toNat)
  case atStart =>
    refine ⟨0, none, 0, Nat.zero_le _, rfl, Gr.alloc hgw _, ?_, World.ownsRow_nil _ _ _ _⟩
    refine ⟨?_, ?_, ?_, ?_, ?_, ?_, ?_, ?_, ?_, ?_, ?_, ?_, ?_, ?_, ?_, ?_, ?_, ?_, ?_, ?_, ?_, ?_⟩
    all_goals first | (go_simp; done) | (simp; done) | (simp; omega)
  case round =>
    obtain ⟨k, A', c', hk, rfl, hgr, hFC, hown⟩ := hrel
    by_cases hlt : k < n
    · have m0 : 0 ≤ (k : Int) * step := Int.mul_nonneg (by omega) (by omega)
      have m1 : (k : Int) * step ≤ 144115188075855872 := by
        have : (k : Int) * step ≤ 131072 * 1099511627776 := Int.mul_le_mul (by omega) h_s2 (by omega) (by omega)
        omega
      have hwr : IntKind.i64.wrap (start + (k : Int) * step + step) = start + (k : Int) * step + step := IntWalk.i64_in _ (by omega)
      go_wp2
      have hS0 : FC s A c start step w.heap.size w1.heap.size A' k c' wr.drew := hFC.gr hz (Gr.drew (Gr.refl _))
      have hown0 := hown.drew
      have gV0 : Gr w wr.drew := Gr.drew hgr
      obtain ⟨V, hV⟩ : ∃ V, V = wr.drew := ⟨_, rfl⟩
      refine wp_region_Z 14 (FC s A c start step w.heap.size w1.heap.size A' k c') (by kernel_rfl) ?_
      rw [← hV] at hS0 hown0 gV0 ⊢
      clear hFC hown hgr hV
      refine wpAnyZ_take (i := 0) (v := ?v1) rfl (by kernel_rfl) (fun _ _ _ h => h) (by rfl) (fun W hS => ?h1) hS0 ?r1
      case h1 =>
        obtain ⟨q0, q1, q2, q3, q4, p0, p1, p2, p3, p4, g0, g1, g2, g3, g4, o0, o1, o2, o3, o4, f3, sz⟩ := hS
        go_simp
        rfl
      simp only [Act.put, List.setIfInBounds_toArray, List.set_cons_zero, List.set_cons_succ]
      refine wpAnyZ_take (i := 1) (v := ?v2) rfl (by kernel_rfl) (fun _ _ _ h => h) (by rfl) (fun W hS => ?h2) hS0 ?r2
      case h2 =>
        obtain ⟨q0, q1, q2, q3, q4, p0, p1, p2, p3, p4, g0, g1, g2, g3, g4, o0, o1, o2, o3, o4, f3, sz⟩ := hS
        go_simp
        rfl
      simp only [Act.put, List.setIfInBounds_toArray, List.set_cons_zero, List.set_cons_succ]
      refine wpAnyZ_take (i := 2) (v := ?v3) rfl (by kernel_rfl) (fun _ _ _ h => h) (by rfl) (fun W hS => ?h3) hS0 ?r3
      case h3 =>
        obtain ⟨q0, q1, q2, q3, q4, p0, p1, p2, p3, p4, g0, g1, g2, g3, g4, o0, o1, o2, o3, o4, f3, sz⟩ := hS
        go_simp
        rfl
      simp only [Act.put, List.setIfInBounds_toArray, List.set_cons_zero, List.set_cons_succ]
      refine wpAnyZ_take (i := 4) (v := ?v4) rfl (by kernel_rfl) (fun _ _ _ h => h) (by rfl) (fun W hS => ?h4) hS0 ?r4
      case h4 =>
        obtain ⟨q0, q1, q2, q3, q4, p0, p1, p2, p3, p4, g0, g1, g2, g3, g4, o0, o1, o2, o3, o4, f3, sz⟩ := hS
        go_simp
        rfl
      simp only [Act.put, List.setIfInBounds_toArray, List.set_cons_zero, List.set_cons_succ]
      refine wpAnyZ_take (i := 5) (v := ?v5) rfl (by kernel_rfl) (fun _ _ _ h => h) (by rfl) (fun W hS => ?h5) hS0 ?r5
      case h5 =>
        obtain ⟨q0, q1, q2, q3, q4, p0, p1, p2, p3, p4, g0, g1, g2, g3, g4, o0, o1, o2, o3, o4, f3, sz⟩ := hS
        go_simp
        rfl
      simp only [Act.put, List.setIfInBounds_toArray, List.set_cons_zero, List.set_cons_succ]
      refine wpAnyZ_take (i := 6) (v := ?v6) rfl (by kernel_rfl) (fun _ _ _ h => h) (by rfl) (fun W hS => ?h6) hS0 ?r6
      case h6 =>
        obtain ⟨q0, q1, q2, q3, q4, p0, p1, p2, p3, p4, g0, g1, g2, g3, g4, o0, o1, o2, o3, o4, f3, sz⟩ := hS
        go_simp
        rfl
      simp only [Act.put, List.setIfInBounds_toArray, List.set_cons_zero, List.set_cons_succ]
      refine wpAnyZ_take (i := 7) (v := ?v7) rfl (by kernel_rfl) (fun _ _ _ h => h) (by rfl) (fun W hS => ?h7) hS0 ?r7
      case h7 =>
        obtain ⟨q0, q1, q2, q3, q4, p0, p1, p2, p3, p4, g0, g1, g2, g3, g4, o0, o1, o2, o3, o4, f3, sz⟩ := hS
        go_simp
        rfl
      simp only [Act.put, List.setIfInBounds_toArray, List.set_cons_zero, List.set_cons_succ]
      refine wpAnyZ_take (i := 8) (v := ?v8) rfl (by kernel_rfl) (fun _ _ _ h => h) (by rfl) (fun W hS => ?h8) hS0 ?r8
      case h8 =>
        obtain ⟨q0, q1, q2, q3, q4, p0, p1, p2, p3, p4, g0, g1, g2, g3, g4, o0, o1, o2, o3, o4, f3, sz⟩ := hS
        go_simp
        rfl
      simp only [Act.put, List.setIfInBounds_toArray, List.set_cons_zero, List.set_cons_succ]
      refine wpAnyZ_ready (rs := [3]) (by kernel_rfl) (by simp) ?_
      refine AllReadyZ.cons rfl (by rfl) (fun K hK => ?_) ?_
      rotate_left
      exact AllReadyZ.nil
      go_simp
      refine (scons_any s A c _ (hr.gr gV0)).mono ?_; rintro e w5 ⟨rfl, hg5⟩
      have gV5 := Gr.trans gV0 hg5
      have hS5 := hS0.gr hz hg5
      have hown5 := own_gr hown0 hg5
      go_wp2_with fail
      refine hK.out _ _ (fun hnz => ?s9) (fun _ => ?r9)
      case s9 => exact hS5
      clear hK K
      try simp only [Act.put, List.setIfInBounds_toArray, List.set_cons_zero, List.set_cons_succ]
      refine wpAnyZ_ready (rs := [9]) (by kernel_rfl) (by simp) ?_
      refine AllReadyZ.cons rfl (by rfl) (fun K hK => ?_) ?_
      rotate_left
      exact AllReadyZ.nil
      go_simp
      refine (within_gen s A c ho (start + k * step) (start + k * step + step) (by omega) (by omega) (by omega) _ hcap (hr.gr gV5)).mono ?_; rintro e w6 ⟨A2, c2, rfl, hrv, hg6⟩
      have gV6 := Gr.trans gV5 hg6
      have hS6 := hS5.gr hz hg6
      have hown6 := own_gr hown5 hg6
      go_wp2_with fail
      refine hK.out _ _ (fun hnz => ?s10) (fun _ => ?r10)
      case s10 => exact hS6
      clear hK K
      try simp only [Act.put, List.setIfInBounds_toArray, List.set_cons_zero, List.set_cons_succ]
      refine wpAnyZ_ready (rs := [10]) (by kernel_rfl) (by simp) ?_
      refine AllReadyZ.cons rfl (by rfl) (fun K hK => ?_) ?_
      rotate_left
      exact AllReadyZ.nil
      go_simp
      refine (agg_of_any (consS s) A2 c2 _ _ (by rw [withinS_len]; have := plS_le s (start + k * step + step); omega) hrv).mono ?_; rintro e w7 ⟨rfl, hg7⟩
      have gV7 := Gr.trans gV6 hg7
      have hS7 := hS6.gr hz hg7
      have hown7 := own_gr hown6 hg7
      go_wp2_with fail
      refine hK.out _ _ (fun hnz => ?s11) (fun _ => ?r11)
      case s11 => exact hS7
      clear hK K
      try simp only [Act.put, List.setIfInBounds_toArray, List.set_cons_zero, List.set_cons_succ]
      refine wpAnyZ_ready (rs := [11]) (by kernel_rfl) (by simp) ?_
      refine AllReadyZ.cons rfl (by rfl) (fun K hK => ?_) ?_
      rotate_left
      exact AllReadyZ.nil
      obtain ⟨v, hv⟩ : ∃ v, aggV (consS s) (withinS s (start + k * step) (start + k * step + step)) = v := ⟨_, rfl⟩
      rw [hv]
      have HV := Lib.hid hv; clear hv
      have hrx := Rv.new (W := w7) rfl 34 [v]
      have hS8 := hS7.gr hz (Gr.alloc (Gr.refl _) (.cells (vcells [v]).toArray 34))
      have hown8 := hown7.alloc (.cells (vcells [v]).toArray 34)
      have gV8 := Gr.alloc gV7 (.cells (vcells [v]).toArray 34)
      have z7 : w1.heap.size < w7.heap.size := by obtain ⟨_, _, _, _, _, _, _, _, _, _, _, _, _, _, _, _, _, _, _, _, _, sz⟩ := hS7; exact sz
      have hvl := hown7.lt
      go_simp
      refine hK.out _ _ (fun hnz => ?s12) (fun _ => ?r12)
      case s12 => exact hS8
      clear hK K
      try simp only [Act.put, List.setIfInBounds_toArray, List.set_cons_zero, List.set_cons_succ]
      refine wpAnyZ_ready (rs := [12]) (by kernel_rfl) (by simp) ?_
      refine AllReadyZ.cons rfl (by rfl) (fun K hK => ?_) ?_
      rotate_left
      exact AllReadyZ.nil
      refine wp_append_rd (.tmp 58) (.tmp 68) 22 rfl (w1.heap.size + 1) 34 i0 _ 2 16 Try.underlying22 hi0 hz0 hz1 hz2 rfl (by decide) _ k _ rfl hown8 ⟨w7.heap.size, 0, none⟩ 1 _ (vcells [v]) rfl hrx (by decide) (vcells_one _) (by unfold maxLen; omega) (by omega) (by simp; omega) ?_
      intro v' w9 hown9 hgr9 _
      obtain ⟨A9, c9, hv9⟩ := own_form hown9
      subst hv9
      have hg9 : Gr w w9 := Gr.grown gV8 hgr9 (fun j hj => by have := (hvl j hj).1; omega)
      have hB9 : Below (w1.heap.size + 1) (w7.alloc (.cells (vcells [v]).toArray 34)) w9 := Below.grown (Below.refl _ _) hgr9 (by simp; omega) (fun j hj => (hvl j hj).1)
      have hS9 := hS8.below hz hB9
      have hown10 := own_set hown9 (p := ⟨w1.heap.size, 3, none⟩) (Nat.lt_succ_self _) (.slice A9 (k + 1) c9)
      have hS10 := hS9.set hz A9 (k + 1) c9
      have hg10 := Gr.setCell hg9 (p := ⟨w1.heap.size, 3, none⟩) (by show w.heap.size ≤ w1.heap.size; omega) (.slice A9 (k + 1) c9)
      clear hB9 hgr9 hS8 hown8 gV8 hvl hrx
      refine hK.out _ _ (fun hnz => ?s13) (fun _ => ?r13)
      case s13 => exact hS9
      clear hK K
      try simp only [Act.put, List.setIfInBounds_toArray, List.set_cons_zero, List.set_cons_succ]
      refine wpAnyZ_ready (rs := [13]) (by kernel_rfl) (by simp) ?_
      refine AllReadyZ.cons rfl (by rfl) (fun K hK => ?_) ?_
      rotate_left
      exact AllReadyZ.nil
      go_simp
      refine hK.out _ _ (fun hnz => ?s14) (fun _ => ?r14)
      case s14 => exact hS9
      clear hK K
      try simp only [Act.put, List.setIfInBounds_toArray, List.set_cons_zero, List.set_cons_succ]
      refine wpAnyZ_ready (rs := [14]) (by kernel_rfl) (by simp) ?_
      refine AllReadyZ.cons rfl (by rfl) (fun K hK => ?_) ?_
      rotate_left
      exact AllReadyZ.nil
      obtain ⟨q0, q1, q2, q3, q4, p0, p1, p2, p3, p4, g0, g1, g2, g3, g4, o0, o1, o2, o3, o4, f3, sz⟩ := hS9
      go_simp
      refine hK.out _ _ (fun hnz => ?s15) (fun _ => ?r15)
      case s15 => exact absurd rfl hnz
      clear hK K
      try simp only [Act.put, List.setIfInBounds_toArray, List.set_cons_zero, List.set_cons_succ]
      refine wpAnyZ_done (by kernel_rfl) ?_ _
      clear q0 q1 q2 q3 q4 p0 p1 p2 p3 p4 g0 g1 g2 g3 g4 o0 o1 o2 o3 o4 f3 sz
      go_wp2
      go_roundw
      case rel => exact ⟨k + 1, A9, c9, by omega, by go_num, hg10, hS10, by rw [fitL_succ, show fitV s start step k = v from HV.out]; simpa [vcells_append] using hown10⟩
      case measure => simp [intOf]; omega
    · have hkk : k = n := by omega
      subst hkk
      obtain ⟨q0, q1, q2, q3, q4, p0, p1, p2, p3, p4, g0, g1, g2, g3, g4, o0, o1, o2, o3, o4, f3, sz⟩ := hFC
      have hrv : Rv wr A' (fitL s start step k) := by have h := Rd.own hown; unfold Rv; rw [fitL_len]; exact h
      have hn1 : ∀ ad, A' = some ad → w.heap.size + 1 < ad.block := fun ad h => by have := own_new hown ad h; omega
      have y2 : w.heap.size + 1 < wr.heap.size := by omega
      have hfl := fitL_len s start step k
      go_wp2
      refine bodyPost_ret (v := .agg #[.string s.name, .int .i64 start, .int .i64 step, .slice A' k c', .int .i64 s.cons]) (by simp [results, Try.results13, go_sem, *]) rfl ⟨A', c', ?_, ?_, ?_, ?_⟩
      · show _ = Ending.returned (.agg #[.string s.name, .int .i64 start, .int .i64 step, .slice A' (fitL s start step k).length c', .int .i64 s.cons])
        rw [hfl]
      · exact (Rv.set (Rv.set (Rv.set (Rv.set (Rv.set hrv _ _ hn1) _ _ hn1) _ _ hn1) _ _ hn1) _ _ hn1)
      · exact (Gr.setCell (Gr.setCell (Gr.setCell (Gr.setCell (Gr.setCell hgr (Nat.le_succ _) _) (Nat.le_succ _) _) (Nat.le_succ _) _) (Nat.le_succ _) _) (Nat.le_succ _) _)
      · exact fun ad h => by have := hn1 ad h; omega
end Go.Proofs.Ytoikpkgogncdhaa
