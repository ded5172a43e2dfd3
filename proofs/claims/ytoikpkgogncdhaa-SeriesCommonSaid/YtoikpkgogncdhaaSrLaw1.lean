/- The laws SeriesFits and SeriesShrinks of chapter 18, walked over the contracts. -/
import Derived.Test.YtoikpkgogncdhaaSrShrinkR
import Derived.Test.YtoikpkgogncdhaaSrKnown
import Derived.Test.YtoikpkgogncdhaaSrHeavy
import Derived.Test.YtoikpkgogncdhaaSrSame
namespace Go.Proofs.Ytoikpkgogncdhaa
set_option linter.unusedVariables false
set_option linter.unusedSimpArgs false
open Go.RowKit

def FQ (s : Sr) (A : Option Addr) (c : Nat) (B0 : Nat) (W : World) : Prop := W.cell? ⟨B0, 0, none⟩ = some (.string s.name) ∧ W.cell? ⟨B0, 1, none⟩ = some (.int .i64 s.start) ∧ W.cell? ⟨B0, 2, none⟩ = some (.int .i64 s.step) ∧ W.cell? ⟨B0, 3, none⟩ = some (.slice A s.vals.length c) ∧ W.cell? ⟨B0, 4, none⟩ = some (.int .i64 s.cons) ∧ B0 < W.heap.size
theorem FQ.gr {s : Sr} {A : Option Addr} {c B0 : Nat} {W W' : World} (h : FQ s A c B0 W) (g : Gr W W') : FQ s A c B0 W' := by
  obtain ⟨q0, q1, q2, q3, q4, sz⟩ := h
  exact ⟨(g.cell (p := ⟨B0, 0, none⟩) sz).trans q0, (g.cell (p := ⟨B0, 1, none⟩) sz).trans q1, (g.cell (p := ⟨B0, 2, none⟩) sz).trans q2, (g.cell (p := ⟨B0, 3, none⟩) sz).trans q3, (g.cell (p := ⟨B0, 4, none⟩) sz).trans q4, Nat.lt_of_lt_of_le sz g.size⟩
theorem same_self (T : Sr) (A A' : Option Addr) (c c' : Nat) (w : World) (hl : T.vals.length ≤ 1000000) (hr : Rv w A T.vals) (hr' : Rv w A' T.vals) :
    Calls Try.prog 12 #[.agg #[.string T.name, .int .i64 T.start, .int .i64 T.step, .slice A T.vals.length c, .int .i64 T.cons], .agg #[.string T.name, .int .i64 T.start, .int .i64 T.step, .slice A' T.vals.length c', .int .i64 T.cons]] w fun e w' => e = .returned (.bool true) ∧ Gr w w' :=
  (lsame_any T.name T.name T.start T.start T.step T.step T.cons T.cons T.vals T.vals A A' c c' w hl hl hr hr').mono (fun e w' ⟨⟨b, he, hb⟩, hg⟩ => ⟨by rw [he, hb.2 rfl], hg⟩)
theorem fitS_len (s : Sr) (start step n : Int) (hl : s.vals.length ≤ 1000000) : (fitS s start step n).vals.length ≤ 1000000 := by
  unfold fitS
  split
  · rename_i h
    unfold fitOk at h
    simp only [Bool.and_eq_true, decide_eq_true_eq] at h
    show (fitL s start step n.toNat).length ≤ 1000000
    rw [fitL_len]; omega
  · exact hl
theorem shrinkS_len (s : Sr) (most : Int) (hl : s.vals.length ≤ 1000000) : (shrinkS s most).vals.length ≤ 1000000 := by
  unfold shrinkS
  split
  · split
    · exact hl
    · exact fitS_len _ _ _ _ hl
  · exact hl

set_option maxRecDepth 100000 in
set_option maxHeartbeats 3200000 in
theorem law_SeriesFits (s : Sr) (A : Option Addr) (c : Nat) (start step n : Int) (w : World) (hcap : s.vals.length ≤ c) (hr : Rv w A s.vals) :
    Calls Try.prog 3 #[.agg #[.string s.name, .int .i64 s.start, .int .i64 s.step, .slice A s.vals.length c, .int .i64 s.cons], .int .i64 start, .int .i64 step, .int .i64 n] w fun e w' => e = .returned (.bool true) ∧ Gr w w' := by
  obtain ⟨W, hW⟩ : ∃ W, W = (w.alloc (.cells #[.string s.name, .int .i64 s.start, .int .i64 s.step, .slice A s.vals.length c, .int .i64 s.cons] 24)) := ⟨_, rfl⟩
  have hgW : Gr w W := by rw [hW]; exact Gr.alloc (Gr.refl _) _
  have hWz : W.heap.size = w.heap.size + 1 := by rw [hW]; simp
  have hQ : FQ s A c w.heap.size W := by
    rw [hW]
    refine ⟨?_, ?_, ?_, ?_, ?_, ?_⟩
    all_goals first | (go_simp; done) | (simp; done)
  have hRl := Rl.new (W := W) hWz.symm 24 [⟨s, A, c⟩]
  have HH := Lib.hid (heavy_any (some ⟨w.heap.size + 1, 0, none⟩) 1 [⟨s, A, c⟩] _ hRl)
  have hQ2 := hQ.gr (Gr.alloc (Gr.refl W) (.cells (scells [⟨s, A, c⟩]).toArray 24))
  have hg2 := Gr.alloc hgW (.cells (scells [⟨s, A, c⟩]).toArray 24)
  rw [hW] at HH hQ2 hg2
  clear hQ hgW hWz hRl hW
  go_enter Try.func3, Try.ntmps3
  go_wp2_with fail
  refine HH.out.mono ?_
  rintro e w1 ⟨⟨b, rfl, hb⟩, hg⟩
  have hQ1 := hQ2.gr hg
  have hgw := Gr.trans hg2 hg
  clear hQ2 hg2 hg HH
  cases b
  case true =>
    go_wp2
    go_ret
    exact ⟨rfl, hgw⟩
  obtain ⟨_, hLt⟩ := hb rfl
  have hLs := hLt ⟨s, A, c⟩ (by simp)
  have hl120 : (s.vals.length : Int) ≤ 120 := hLs.1
  have hl : s.vals.length ≤ 1000000 := by omega
  clear hLt hLs hb
  by_cases hn : (300 : Int) < n
  case pos =>
    go_wp2
    go_ret
    exact ⟨rfl, hgw⟩
  obtain ⟨T, hT⟩ : ∃ T, fitS s start step n = T := ⟨_, rfl⟩
  have hTl : T.vals.length ≤ 1000000 := by rw [← hT]; exact fitS_len _ _ _ _ hl
  have HF1 : Hid (∀ w, Rv w A s.vals → Calls Try.prog 13 #[.agg #[.string s.name, .int .i64 s.start, .int .i64 s.step, .slice A s.vals.length c, .int .i64 s.cons], .int .i64 start, .int .i64 step, .int .i64 n] w (RetS T w)) := Lib.hid (fun w hr => by rw [← hT]; exact fit_any s A c start step n w hl hcap hr)
  have HF2 : Hid (∀ w, Rv w A s.vals → Calls Try.prog 14 #[.agg #[.string s.name, .int .i64 s.start, .int .i64 s.step, .slice A s.vals.length c, .int .i64 s.cons], .int .i64 start, .int .i64 step, .int .i64 n] w (RetS T w)) := Lib.hid (fun w hr => by rw [← hT]; exact rfit_any s A c start step n w hl hr)
  clear hT
  obtain ⟨q0, q1, q2, q3, q4, sz⟩ := id hQ1
  go_wp2
  clear q0 q1 q2 q3 q4 sz
  have hS0 : FQ s A c w.heap.size w1.drew := hQ1.gr (Gr.drew (Gr.refl _))
  have gV0 : Gr w w1.drew := Gr.drew hgw
  obtain ⟨V, hV⟩ : ∃ V, V = w1.drew := ⟨_, rfl⟩
  refine wp_region_Z 14 (FQ s A c w.heap.size) (by kernel_rfl) ?_
  rw [← hV] at hS0 gV0 ⊢
  clear hQ1 hgw hV
  refine wpAnyZ_take (i := 0) (v := ?v65) rfl (by kernel_rfl) (fun _ _ _ h => h) (by rfl) (fun W hS => ?h65) hS0 ?r65
  case h65 =>
    obtain ⟨q0, q1, q2, q3, q4, sz⟩ := hS
    go_simp
    rfl
  simp only [Act.put, List.setIfInBounds_toArray, List.set_cons_zero, List.set_cons_succ]
  refine wpAnyZ_take (i := 1) (v := ?v66) rfl (by kernel_rfl) (fun _ _ _ h => h) (by rfl) (fun W hS => ?h66) hS0 ?r66
  case h66 =>
    obtain ⟨q0, q1, q2, q3, q4, sz⟩ := hS
    go_simp
    rfl
  simp only [Act.put, List.setIfInBounds_toArray, List.set_cons_zero, List.set_cons_succ]
  refine wpAnyZ_take (i := 2) (v := ?v67) rfl (by kernel_rfl) (fun _ _ _ h => h) (by rfl) (fun W hS => ?h67) hS0 ?r67
  case h67 =>
    obtain ⟨q0, q1, q2, q3, q4, sz⟩ := hS
    go_simp
    rfl
  simp only [Act.put, List.setIfInBounds_toArray, List.set_cons_zero, List.set_cons_succ]
  refine wpAnyZ_take (i := 3) (v := ?v68) rfl (by kernel_rfl) (fun _ _ _ h => h) (by rfl) (fun W hS => ?h68) hS0 ?r68
  case h68 =>
    obtain ⟨q0, q1, q2, q3, q4, sz⟩ := hS
    go_simp
    rfl
  simp only [Act.put, List.setIfInBounds_toArray, List.set_cons_zero, List.set_cons_succ]
  refine wpAnyZ_take (i := 5) (v := ?v69) rfl (by kernel_rfl) (fun _ _ _ h => h) (by rfl) (fun W hS => ?h69) hS0 ?r69
  case h69 =>
    obtain ⟨q0, q1, q2, q3, q4, sz⟩ := hS
    go_simp
    rfl
  simp only [Act.put, List.setIfInBounds_toArray, List.set_cons_zero, List.set_cons_succ]
  refine wpAnyZ_take (i := 6) (v := ?v70) rfl (by kernel_rfl) (fun _ _ _ h => h) (by rfl) (fun W hS => ?h70) hS0 ?r70
  case h70 =>
    obtain ⟨q0, q1, q2, q3, q4, sz⟩ := hS
    go_simp
    rfl
  simp only [Act.put, List.setIfInBounds_toArray, List.set_cons_zero, List.set_cons_succ]
  refine wpAnyZ_take (i := 7) (v := ?v71) rfl (by kernel_rfl) (fun _ _ _ h => h) (by rfl) (fun W hS => ?h71) hS0 ?r71
  case h71 =>
    obtain ⟨q0, q1, q2, q3, q4, sz⟩ := hS
    go_simp
    rfl
  simp only [Act.put, List.setIfInBounds_toArray, List.set_cons_zero, List.set_cons_succ]
  refine wpAnyZ_take (i := 8) (v := ?v72) rfl (by kernel_rfl) (fun _ _ _ h => h) (by rfl) (fun W hS => ?h72) hS0 ?r72
  case h72 =>
    obtain ⟨q0, q1, q2, q3, q4, sz⟩ := hS
    go_simp
    rfl
  simp only [Act.put, List.setIfInBounds_toArray, List.set_cons_zero, List.set_cons_succ]
  refine wpAnyZ_ready (rs := [4]) (by kernel_rfl) (by simp) ?_
  refine AllReadyZ.cons rfl (by rfl) (fun K hK => ?_) ?_
  rotate_left
  exact AllReadyZ.nil
  go_simp
  refine (HF1.out _ (hr.gr gV0)).mono ?_; rintro e w5 ⟨A5, c5, rfl, hr5, hg5, _⟩
  have gV5 := Gr.trans gV0 hg5
  have hS5 := hS0.gr hg5
  go_wp2_with fail
  refine hK.out _ _ (fun hnz => ?s73) (fun _ => ?r73)
  case s73 => exact hS5
  clear hK K
  try simp only [Act.put, List.setIfInBounds_toArray, List.set_cons_zero, List.set_cons_succ]
  refine wpAnyZ_ready (rs := [9]) (by kernel_rfl) (by simp) ?_
  refine AllReadyZ.cons rfl (by rfl) (fun K hK => ?_) ?_
  rotate_left
  exact AllReadyZ.nil
  go_simp
  refine (HF2.out _ (hr.gr gV5)).mono ?_; rintro e w6 ⟨A6, c6, rfl, hr6, hg6, _⟩
  have gV6 := Gr.trans gV5 hg6
  have hS6 := hS5.gr hg6
  have hr5 := hr5.gr hg6
  go_wp2_with fail
  refine hK.out _ _ (fun hnz => ?s74) (fun _ => ?r74)
  case s74 => exact hS6
  clear hK K
  try simp only [Act.put, List.setIfInBounds_toArray, List.set_cons_zero, List.set_cons_succ]
  refine wpAnyZ_ready (rs := [10]) (by kernel_rfl) (by simp) ?_
  refine AllReadyZ.cons rfl (by rfl) (fun K hK => ?_) ?_
  rotate_left
  exact AllReadyZ.nil
  go_simp
  refine (same_self T A5 A6 c5 c6 _ hTl hr5 hr6).mono ?_; rintro e w7 ⟨rfl, hg7⟩
  have gV7 := Gr.trans gV6 hg7
  have hS7 := hS6.gr hg7
  go_wp2_with fail
  refine hK.out _ _ (fun hnz => ?s75) (fun _ => ?r75)
  case s75 => exact hS7
  clear hK K
  try simp only [Act.put, List.setIfInBounds_toArray, List.set_cons_zero, List.set_cons_succ]
  refine wpAnyZ_take (i := 11) (v := ?v76) rfl (by kernel_rfl) (fun _ _ _ h => h) (by rfl) (fun W hS => ?h76) hS7 ?r76
  case h76 =>
    obtain ⟨q0, q1, q2, q3, q4, sz⟩ := hS
    go_simp
    rfl
  simp only [Act.put, List.setIfInBounds_toArray, List.set_cons_zero, List.set_cons_succ]
  refine wpAnyZ_ready (rs := [12]) (by kernel_rfl) (by simp) ?_
  refine AllReadyZ.cons rfl (by rfl) (fun K hK => ?_) ?_
  rotate_left
  exact AllReadyZ.nil
  go_simp
  refine (known18_any _).mono ?_; rintro e w8 ⟨rfl, hg8⟩
  have gV8 := Gr.trans gV7 hg8
  have hS8 := hS7.gr hg8
  go_wp2_with fail
  refine hK.out _ _ (fun hnz => ?s77) (fun _ => ?r77)
  case s77 => exact hS8
  clear hK K
  try simp only [Act.put, List.setIfInBounds_toArray, List.set_cons_zero, List.set_cons_succ]
  refine wpAnyZ_take (i := 13) (v := ?v78) rfl (by kernel_rfl) (fun _ _ _ h => h) (by rfl) (fun W hS => ?h78) hS8 ?r78
  case h78 =>
    obtain ⟨q0, q1, q2, q3, q4, sz⟩ := hS
    go_simp
    rfl
  simp only [Act.put, List.setIfInBounds_toArray, List.set_cons_zero, List.set_cons_succ]
  refine wpAnyZ_ready (rs := [14]) (by kernel_rfl) (by simp) ?_
  refine AllReadyZ.cons rfl (by rfl) (fun K hK => ?_) ?_
  rotate_left
  exact AllReadyZ.nil
  go_simp
  refine hK.out _ _ (fun hnz => ?s79) (fun _ => ?r79)
  case s79 => exact absurd rfl hnz
  clear hK K
  try simp only [Act.put, List.setIfInBounds_toArray, List.set_cons_zero, List.set_cons_succ]
  refine wpAnyZ_done (by kernel_rfl) ?_ _
  go_wp2
  go_ret
  exact ⟨rfl, gV8⟩

set_option maxRecDepth 100000 in
set_option maxHeartbeats 3200000 in
theorem law_SeriesShrinks (s : Sr) (A : Option Addr) (c : Nat) (most : Int) (w : World) (hcap : s.vals.length ≤ c) (hr : Rv w A s.vals) :
    Calls Try.prog 4 #[.agg #[.string s.name, .int .i64 s.start, .int .i64 s.step, .slice A s.vals.length c, .int .i64 s.cons], .int .i64 most] w fun e w' => e = .returned (.bool true) ∧ Gr w w' := by
  obtain ⟨W, hW⟩ : ∃ W, W = (w.alloc (.cells #[.string s.name, .int .i64 s.start, .int .i64 s.step, .slice A s.vals.length c, .int .i64 s.cons] 24)) := ⟨_, rfl⟩
  have hgW : Gr w W := by rw [hW]; exact Gr.alloc (Gr.refl _) _
  have hWz : W.heap.size = w.heap.size + 1 := by rw [hW]; simp
  have hQ : FQ s A c w.heap.size W := by
    rw [hW]
    refine ⟨?_, ?_, ?_, ?_, ?_, ?_⟩
    all_goals first | (go_simp; done) | (simp; done)
  have hRl := Rl.new (W := W) hWz.symm 24 [⟨s, A, c⟩]
  have HH := Lib.hid (heavy_any (some ⟨w.heap.size + 1, 0, none⟩) 1 [⟨s, A, c⟩] _ hRl)
  have hQ2 := hQ.gr (Gr.alloc (Gr.refl W) (.cells (scells [⟨s, A, c⟩]).toArray 24))
  have hg2 := Gr.alloc hgW (.cells (scells [⟨s, A, c⟩]).toArray 24)
  rw [hW] at HH hQ2 hg2
  clear hQ hgW hWz hRl hW
  go_enter Try.func4, Try.ntmps4
  go_wp2_with fail
  refine HH.out.mono ?_
  rintro e w1 ⟨⟨b, rfl, hb⟩, hg⟩
  have hQ1 := hQ2.gr hg
  have hgw := Gr.trans hg2 hg
  clear hQ2 hg2 hg HH
  cases b
  case true =>
    go_wp2
    go_ret
    exact ⟨rfl, hgw⟩
  obtain ⟨_, hLt⟩ := hb rfl
  have hLs := hLt ⟨s, A, c⟩ (by simp)
  have hl120 : (s.vals.length : Int) ≤ 120 := hLs.1
  have hl : s.vals.length ≤ 1000000 := by omega
  clear hLt hLs hb
  obtain ⟨T, hT⟩ : ∃ T, shrinkS s most = T := ⟨_, rfl⟩
  have hTl : T.vals.length ≤ 1000000 := by rw [← hT]; exact shrinkS_len _ _ hl
  have HF1 : Hid (∀ w, Rv w A s.vals → Calls Try.prog 16 #[.agg #[.string s.name, .int .i64 s.start, .int .i64 s.step, .slice A s.vals.length c, .int .i64 s.cons], .int .i64 most] w (RetS T w)) := Lib.hid (fun w hr => by rw [← hT]; exact shrink_any s A c most w hl hcap hr)
  have HF2 : Hid (∀ w, Rv w A s.vals → Calls Try.prog 17 #[.agg #[.string s.name, .int .i64 s.start, .int .i64 s.step, .slice A s.vals.length c, .int .i64 s.cons], .int .i64 most] w (RetS T w)) := Lib.hid (fun w hr => by rw [← hT]; exact rshrink_any s A c most w hl hr)
  clear hT
  obtain ⟨q0, q1, q2, q3, q4, sz⟩ := id hQ1
  go_wp2
  clear q0 q1 q2 q3 q4 sz
  have hS0 : FQ s A c w.heap.size w1.drew := hQ1.gr (Gr.drew (Gr.refl _))
  have gV0 : Gr w w1.drew := Gr.drew hgw
  obtain ⟨V, hV⟩ : ∃ V, V = w1.drew := ⟨_, rfl⟩
  refine wp_region_Z 10 (FQ s A c w.heap.size) (by kernel_rfl) ?_
  rw [← hV] at hS0 gV0 ⊢
  clear hQ1 hgw hV
  refine wpAnyZ_take (i := 0) (v := ?v80) rfl (by kernel_rfl) (fun _ _ _ h => h) (by rfl) (fun W hS => ?h80) hS0 ?r80
  case h80 =>
    obtain ⟨q0, q1, q2, q3, q4, sz⟩ := hS
    go_simp
    rfl
  simp only [Act.put, List.setIfInBounds_toArray, List.set_cons_zero, List.set_cons_succ]
  refine wpAnyZ_take (i := 1) (v := ?v81) rfl (by kernel_rfl) (fun _ _ _ h => h) (by rfl) (fun W hS => ?h81) hS0 ?r81
  case h81 =>
    obtain ⟨q0, q1, q2, q3, q4, sz⟩ := hS
    go_simp
    rfl
  simp only [Act.put, List.setIfInBounds_toArray, List.set_cons_zero, List.set_cons_succ]
  refine wpAnyZ_take (i := 3) (v := ?v82) rfl (by kernel_rfl) (fun _ _ _ h => h) (by rfl) (fun W hS => ?h82) hS0 ?r82
  case h82 =>
    obtain ⟨q0, q1, q2, q3, q4, sz⟩ := hS
    go_simp
    rfl
  simp only [Act.put, List.setIfInBounds_toArray, List.set_cons_zero, List.set_cons_succ]
  refine wpAnyZ_take (i := 4) (v := ?v83) rfl (by kernel_rfl) (fun _ _ _ h => h) (by rfl) (fun W hS => ?h83) hS0 ?r83
  case h83 =>
    obtain ⟨q0, q1, q2, q3, q4, sz⟩ := hS
    go_simp
    rfl
  simp only [Act.put, List.setIfInBounds_toArray, List.set_cons_zero, List.set_cons_succ]
  refine wpAnyZ_ready (rs := [2]) (by kernel_rfl) (by simp) ?_
  refine AllReadyZ.cons rfl (by rfl) (fun K hK => ?_) ?_
  rotate_left
  exact AllReadyZ.nil
  go_simp
  refine (HF1.out _ (hr.gr gV0)).mono ?_; rintro e w5 ⟨A5, c5, rfl, hr5, hg5, _⟩
  have gV5 := Gr.trans gV0 hg5
  have hS5 := hS0.gr hg5
  go_wp2_with fail
  refine hK.out _ _ (fun hnz => ?s84) (fun _ => ?r84)
  case s84 => exact hS5
  clear hK K
  try simp only [Act.put, List.setIfInBounds_toArray, List.set_cons_zero, List.set_cons_succ]
  refine wpAnyZ_ready (rs := [5]) (by kernel_rfl) (by simp) ?_
  refine AllReadyZ.cons rfl (by rfl) (fun K hK => ?_) ?_
  rotate_left
  exact AllReadyZ.nil
  go_simp
  refine (HF2.out _ (hr.gr gV5)).mono ?_; rintro e w6 ⟨A6, c6, rfl, hr6, hg6, _⟩
  have gV6 := Gr.trans gV5 hg6
  have hS6 := hS5.gr hg6
  have hr5 := hr5.gr hg6
  go_wp2_with fail
  refine hK.out _ _ (fun hnz => ?s85) (fun _ => ?r85)
  case s85 => exact hS6
  clear hK K
  try simp only [Act.put, List.setIfInBounds_toArray, List.set_cons_zero, List.set_cons_succ]
  refine wpAnyZ_ready (rs := [6]) (by kernel_rfl) (by simp) ?_
  refine AllReadyZ.cons rfl (by rfl) (fun K hK => ?_) ?_
  rotate_left
  exact AllReadyZ.nil
  go_simp
  refine (same_self T A5 A6 c5 c6 _ hTl hr5 hr6).mono ?_; rintro e w7 ⟨rfl, hg7⟩
  have gV7 := Gr.trans gV6 hg7
  have hS7 := hS6.gr hg7
  go_wp2_with fail
  refine hK.out _ _ (fun hnz => ?s86) (fun _ => ?r86)
  case s86 => exact hS7
  clear hK K
  try simp only [Act.put, List.setIfInBounds_toArray, List.set_cons_zero, List.set_cons_succ]
  refine wpAnyZ_take (i := 7) (v := ?v87) rfl (by kernel_rfl) (fun _ _ _ h => h) (by rfl) (fun W hS => ?h87) hS7 ?r87
  case h87 =>
    obtain ⟨q0, q1, q2, q3, q4, sz⟩ := hS
    go_simp
    rfl
  simp only [Act.put, List.setIfInBounds_toArray, List.set_cons_zero, List.set_cons_succ]
  refine wpAnyZ_ready (rs := [8]) (by kernel_rfl) (by simp) ?_
  refine AllReadyZ.cons rfl (by rfl) (fun K hK => ?_) ?_
  rotate_left
  exact AllReadyZ.nil
  go_simp
  refine (known18_any _).mono ?_; rintro e w8 ⟨rfl, hg8⟩
  have gV8 := Gr.trans gV7 hg8
  have hS8 := hS7.gr hg8
  go_wp2_with fail
  refine hK.out _ _ (fun hnz => ?s88) (fun _ => ?r88)
  case s88 => exact hS8
  clear hK K
  try simp only [Act.put, List.setIfInBounds_toArray, List.set_cons_zero, List.set_cons_succ]
  refine wpAnyZ_take (i := 9) (v := ?v89) rfl (by kernel_rfl) (fun _ _ _ h => h) (by rfl) (fun W hS => ?h89) hS8 ?r89
  case h89 =>
    obtain ⟨q0, q1, q2, q3, q4, sz⟩ := hS
    go_simp
    rfl
  simp only [Act.put, List.setIfInBounds_toArray, List.set_cons_zero, List.set_cons_succ]
  refine wpAnyZ_ready (rs := [10]) (by kernel_rfl) (by simp) ?_
  refine AllReadyZ.cons rfl (by rfl) (fun K hK => ?_) ?_
  rotate_left
  exact AllReadyZ.nil
  go_simp
  refine hK.out _ _ (fun hnz => ?s90) (fun _ => ?r90)
  case s90 => exact absurd rfl hnz
  clear hK K
  try simp only [Act.put, List.setIfInBounds_toArray, List.set_cons_zero, List.set_cons_succ]
  refine wpAnyZ_done (by kernel_rfl) ?_ _
  go_wp2
  go_ret
  exact ⟨rfl, gV8⟩

end Go.Proofs.Ytoikpkgogncdhaa
