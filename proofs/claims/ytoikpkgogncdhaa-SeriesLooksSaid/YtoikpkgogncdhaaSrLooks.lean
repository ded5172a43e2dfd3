/- The law SeriesLooks of chapter 18, walked over the contracts. -/
import Derived.Test.YtoikpkgogncdhaaSrLaw1
namespace Go.Proofs.Ytoikpkgogncdhaa
set_option linter.unusedVariables false
set_option linter.unusedSimpArgs false
open Go.RowKit

def FQ2 (a b : Sr) (A A' : Option Addr) (c c' : Nat) (B0 : Nat) (W : World) : Prop := W.cell? ⟨B0, 0, none⟩ = some (.string a.name) ∧ W.cell? ⟨B0, 1, none⟩ = some (.int .i64 a.start) ∧ W.cell? ⟨B0, 2, none⟩ = some (.int .i64 a.step) ∧ W.cell? ⟨B0, 3, none⟩ = some (.slice A a.vals.length c) ∧ W.cell? ⟨B0, 4, none⟩ = some (.int .i64 a.cons) ∧ W.cell? ⟨B0 + 1, 0, none⟩ = some (.string b.name) ∧ W.cell? ⟨B0 + 1, 1, none⟩ = some (.int .i64 b.start) ∧ W.cell? ⟨B0 + 1, 2, none⟩ = some (.int .i64 b.step) ∧ W.cell? ⟨B0 + 1, 3, none⟩ = some (.slice A' b.vals.length c') ∧ W.cell? ⟨B0 + 1, 4, none⟩ = some (.int .i64 b.cons) ∧ B0 + 1 < W.heap.size
theorem FQ2.gr {a b : Sr} {A A' : Option Addr} {c c' B0 : Nat} {W W' : World} (h : FQ2 a b A A' c c' B0 W) (g : Gr W W') : FQ2 a b A A' c c' B0 W' := by
  obtain ⟨q0, q1, q2, q3, q4, r0, r1, r2, r3, r4, sz⟩ := h
  have h0 : B0 < W.heap.size := by omega
  exact ⟨(g.cell (p := ⟨B0, 0, none⟩) h0).trans q0, (g.cell (p := ⟨B0, 1, none⟩) h0).trans q1, (g.cell (p := ⟨B0, 2, none⟩) h0).trans q2, (g.cell (p := ⟨B0, 3, none⟩) h0).trans q3, (g.cell (p := ⟨B0, 4, none⟩) h0).trans q4, (g.cell (p := ⟨B0 + 1, 0, none⟩) sz).trans r0, (g.cell (p := ⟨B0 + 1, 1, none⟩) sz).trans r1, (g.cell (p := ⟨B0 + 1, 2, none⟩) sz).trans r2, (g.cell (p := ⟨B0 + 1, 3, none⟩) sz).trans r3, (g.cell (p := ⟨B0 + 1, 4, none⟩) sz).trans r4, Nat.lt_of_lt_of_le sz g.size⟩

set_option maxRecDepth 100000 in
set_option maxHeartbeats 6400000 in
theorem law_SeriesLooks (a b : Sr) (A A' : Option Addr) (c c' : Nat) (w : World) (hra : Rv w A a.vals) (hrb : Rv w A' b.vals) :
    Calls Try.prog 6 #[.agg #[.string a.name, .int .i64 a.start, .int .i64 a.step, .slice A a.vals.length c, .int .i64 a.cons], .agg #[.string b.name, .int .i64 b.start, .int .i64 b.step, .slice A' b.vals.length c', .int .i64 b.cons]] w fun e w' => e = .returned (.bool true) ∧ Gr w w' := by
  obtain ⟨W, hW⟩ : ∃ W, W = ((w.alloc (.cells #[.string a.name, .int .i64 a.start, .int .i64 a.step, .slice A a.vals.length c, .int .i64 a.cons] 24)).alloc (.cells #[.string b.name, .int .i64 b.start, .int .i64 b.step, .slice A' b.vals.length c', .int .i64 b.cons] 24)) := ⟨_, rfl⟩
  have hgW : Gr w W := by rw [hW]; exact Gr.alloc (Gr.alloc (Gr.refl _) _) _
  have hWz : W.heap.size = w.heap.size + 1 + 1 := by rw [hW]; simp
  have hQ : FQ2 a b A A' c c' w.heap.size W := by
    rw [hW]
    refine ⟨?_, ?_, ?_, ?_, ?_, ?_, ?_, ?_, ?_, ?_, ?_⟩
    all_goals first | (go_simp; done) | (simp; done)
  have hRl := Rl.new (W := W) hWz.symm 24 [⟨a, A, c⟩, ⟨b, A', c'⟩]
  have HH := Lib.hid (heavy_any (some ⟨w.heap.size + 1 + 1, 0, none⟩) 2 [⟨a, A, c⟩, ⟨b, A', c'⟩] _ hRl)
  have hQ2 := hQ.gr (Gr.alloc (Gr.refl W) (.cells (scells [⟨a, A, c⟩, ⟨b, A', c'⟩]).toArray 24))
  have hg2 := Gr.alloc hgW (.cells (scells [⟨a, A, c⟩, ⟨b, A', c'⟩]).toArray 24)
  rw [hW] at HH hQ2 hg2
  clear hQ hgW hWz hRl hW
  go_enter Try.func6, Try.ntmps6
  go_wp2_with fail
  refine HH.out.mono ?_
  rintro e w1 ⟨⟨b0, rfl, hb⟩, hg⟩
  have hQ1 := hQ2.gr hg
  have hgw := Gr.trans hg2 hg
  clear hQ2 hg2 hg HH
  cases b0
  case true =>
    go_wp2
    go_ret
    exact ⟨rfl, hgw⟩
  obtain ⟨_, hLt⟩ := hb rfl
  have hla : a.vals.length ≤ 1000000 := by have := (hLt ⟨a, A, c⟩ (by simp)).1; simp at this; omega
  have hlb : b.vals.length ≤ 1000000 := by have := (hLt ⟨b, A', c'⟩ (by simp)).1; simp at this; omega
  clear hLt hb
  obtain ⟨q0, q1, q2, q3, q4, r0, r1, r2, r3, r4, sz⟩ := id hQ1
  go_wp2
  clear q0 q1 q2 q3 q4 r0 r1 r2 r3 r4 sz
  have hS0 : FQ2 a b A A' c c' w.heap.size w1.drew := hQ1.gr (Gr.drew (Gr.refl _))
  have gV0 : Gr w w1.drew := Gr.drew hgw
  obtain ⟨V, hV⟩ : ∃ V, V = w1.drew := ⟨_, rfl⟩
  refine wp_region_Z 37 (FQ2 a b A A' c c' w.heap.size) (by kernel_rfl) ?_
  rw [← hV] at hS0 gV0 ⊢
  clear hQ1 hgw hV
  refine wpAnyZ_take (i := 0) (v := ?v91) rfl (by kernel_rfl) (fun _ _ _ h => h) (by rfl) (fun W hS => ?h91) hS0 ?r91
  case h91 =>
    obtain ⟨q0, q1, q2, q3, q4, r0, r1, r2, r3, r4, sz⟩ := hS
    go_simp
    rfl
  simp only [Act.put, List.setIfInBounds_toArray, List.set_cons_zero, List.set_cons_succ]
  refine wpAnyZ_take (i := 2) (v := ?v92) rfl (by kernel_rfl) (fun _ _ _ h => h) (by rfl) (fun W hS => ?h92) hS0 ?r92
  case h92 =>
    obtain ⟨q0, q1, q2, q3, q4, r0, r1, r2, r3, r4, sz⟩ := hS
    go_simp
    rfl
  simp only [Act.put, List.setIfInBounds_toArray, List.set_cons_zero, List.set_cons_succ]
  refine wpAnyZ_ready (rs := [1]) (by kernel_rfl) (by simp) ?_
  refine AllReadyZ.cons rfl (by rfl) (fun K hK => ?_) ?_
  rotate_left
  exact AllReadyZ.nil
  go_simp
  refine (sis_any a A c _ (hra.gr gV0)).mono ?_; rintro e w10 ⟨rfl, hg⟩
  have gV1 := Gr.trans gV0 hg
  have hS1 := hS0.gr hg
  clear hg
  go_wp2_with fail
  refine hK.out _ _ (fun hnz => ?s93) (fun _ => ?r93)
  case s93 => exact hS1
  clear hK K
  try simp only [Act.put, List.setIfInBounds_toArray, List.set_cons_zero, List.set_cons_succ]
  refine wpAnyZ_ready (rs := [3]) (by kernel_rfl) (by simp) ?_
  refine AllReadyZ.cons rfl (by rfl) (fun K hK => ?_) ?_
  rotate_left
  exact AllReadyZ.nil
  go_simp
  refine (rsis_any a A c _ (hra.gr gV1)).mono ?_; rintro e w11 ⟨rfl, hg⟩
  have gV2 := Gr.trans gV1 hg
  have hS2 := hS1.gr hg
  clear hg
  go_wp2_with fail
  refine hK.out _ _ (fun hnz => ?s94) (fun _ => ?r94)
  case s94 => exact hS2
  clear hK K
  try simp only [Act.put, List.setIfInBounds_toArray, List.set_cons_zero, List.set_cons_succ]
  refine wpAnyZ_take (i := 4) (v := ?v95) rfl (by kernel_rfl) (fun _ _ _ h => h) (by rfl) (fun W hS => ?h95) hS2 ?r95
  case h95 =>
    obtain ⟨q0, q1, q2, q3, q4, r0, r1, r2, r3, r4, sz⟩ := hS
    go_simp
    rfl
  simp only [Act.put, List.setIfInBounds_toArray, List.set_cons_zero, List.set_cons_succ]
  refine wpAnyZ_take (i := 5) (v := ?v96) rfl (by kernel_rfl) (fun _ _ _ h => h) (by rfl) (fun W hS => ?h96) hS2 ?r96
  case h96 =>
    obtain ⟨q0, q1, q2, q3, q4, r0, r1, r2, r3, r4, sz⟩ := hS
    go_simp
    rfl
  simp only [Act.put, List.setIfInBounds_toArray, List.set_cons_zero, List.set_cons_succ]
  refine wpAnyZ_take (i := 6) (v := ?v97) rfl (by kernel_rfl) (fun _ _ _ h => h) (by rfl) (fun W hS => ?h97) hS2 ?r97
  case h97 =>
    obtain ⟨q0, q1, q2, q3, q4, r0, r1, r2, r3, r4, sz⟩ := hS
    go_simp
    rfl
  simp only [Act.put, List.setIfInBounds_toArray, List.set_cons_zero, List.set_cons_succ]
  refine wpAnyZ_take (i := 8) (v := ?v98) rfl (by kernel_rfl) (fun _ _ _ h => h) (by rfl) (fun W hS => ?h98) hS2 ?r98
  case h98 =>
    obtain ⟨q0, q1, q2, q3, q4, r0, r1, r2, r3, r4, sz⟩ := hS
    go_simp
    rfl
  simp only [Act.put, List.setIfInBounds_toArray, List.set_cons_zero, List.set_cons_succ]
  refine wpAnyZ_ready (rs := [7]) (by kernel_rfl) (by simp) ?_
  refine AllReadyZ.cons rfl (by rfl) (fun K hK => ?_) ?_
  rotate_left
  exact AllReadyZ.nil
  go_simp
  refine (send_any a A c _ (hra.gr gV2)).mono ?_; rintro e w12 ⟨rfl, hg⟩
  have gV3 := Gr.trans gV2 hg
  have hS3 := hS2.gr hg
  clear hg
  go_wp2_with fail
  refine hK.out _ _ (fun hnz => ?s99) (fun _ => ?r99)
  case s99 => exact hS3
  clear hK K
  try simp only [Act.put, List.setIfInBounds_toArray, List.set_cons_zero, List.set_cons_succ]
  refine wpAnyZ_ready (rs := [9]) (by kernel_rfl) (by simp) ?_
  refine AllReadyZ.cons rfl (by rfl) (fun K hK => ?_) ?_
  rotate_left
  exact AllReadyZ.nil
  go_simp
  refine (rsend_any a A c _ (hra.gr gV3)).mono ?_; rintro e w13 ⟨rfl, hg⟩
  have gV4 := Gr.trans gV3 hg
  have hS4 := hS3.gr hg
  clear hg
  go_wp2_with fail
  refine hK.out _ _ (fun hnz => ?s100) (fun _ => ?r100)
  case s100 => exact hS4
  clear hK K
  try simp only [Act.put, List.setIfInBounds_toArray, List.set_cons_zero, List.set_cons_succ]
  refine wpAnyZ_take (i := 10) (v := ?v101) rfl (by kernel_rfl) (fun _ _ _ h => h) (by rfl) (fun W hS => ?h101) hS4 ?r101
  case h101 =>
    obtain ⟨q0, q1, q2, q3, q4, r0, r1, r2, r3, r4, sz⟩ := hS
    go_simp
    rfl
  simp only [Act.put, List.setIfInBounds_toArray, List.set_cons_zero, List.set_cons_succ]
  refine wpAnyZ_take (i := 11) (v := ?v102) rfl (by kernel_rfl) (fun _ _ _ h => h) (by rfl) (fun W hS => ?h102) hS4 ?r102
  case h102 =>
    obtain ⟨q0, q1, q2, q3, q4, r0, r1, r2, r3, r4, sz⟩ := hS
    go_simp
    rfl
  simp only [Act.put, List.setIfInBounds_toArray, List.set_cons_zero, List.set_cons_succ]
  refine wpAnyZ_take (i := 12) (v := ?v103) rfl (by kernel_rfl) (fun _ _ _ h => h) (by rfl) (fun W hS => ?h103) hS4 ?r103
  case h103 =>
    obtain ⟨q0, q1, q2, q3, q4, r0, r1, r2, r3, r4, sz⟩ := hS
    go_simp
    rfl
  simp only [Act.put, List.setIfInBounds_toArray, List.set_cons_zero, List.set_cons_succ]
  refine wpAnyZ_take (i := 13) (v := ?v104) rfl (by kernel_rfl) (fun _ _ _ h => h) (by rfl) (fun W hS => ?h104) hS4 ?r104
  case h104 =>
    obtain ⟨q0, q1, q2, q3, q4, r0, r1, r2, r3, r4, sz⟩ := hS
    go_simp
    rfl
  simp only [Act.put, List.setIfInBounds_toArray, List.set_cons_zero, List.set_cons_succ]
  refine wpAnyZ_take (i := 15) (v := ?v105) rfl (by kernel_rfl) (fun _ _ _ h => h) (by rfl) (fun W hS => ?h105) hS4 ?r105
  case h105 =>
    obtain ⟨q0, q1, q2, q3, q4, r0, r1, r2, r3, r4, sz⟩ := hS
    go_simp
    rfl
  simp only [Act.put, List.setIfInBounds_toArray, List.set_cons_zero, List.set_cons_succ]
  refine wpAnyZ_ready (rs := [14]) (by kernel_rfl) (by simp) ?_
  refine AllReadyZ.cons rfl (by rfl) (fun K hK => ?_) ?_
  rotate_left
  exact AllReadyZ.nil
  go_simp
  refine (scons_any a A c _ (hra.gr gV4)).mono ?_; rintro e w14 ⟨rfl, hg⟩
  have gV5 := Gr.trans gV4 hg
  have hS5 := hS4.gr hg
  clear hg
  go_wp2_with fail
  refine hK.out _ _ (fun hnz => ?s106) (fun _ => ?r106)
  case s106 => exact hS5
  clear hK K
  try simp only [Act.put, List.setIfInBounds_toArray, List.set_cons_zero, List.set_cons_succ]
  refine wpAnyZ_ready (rs := [16]) (by kernel_rfl) (by simp) ?_
  refine AllReadyZ.cons rfl (by rfl) (fun K hK => ?_) ?_
  rotate_left
  exact AllReadyZ.nil
  go_simp
  refine (rscons_any a A c _ (hra.gr gV5)).mono ?_; rintro e w15 ⟨rfl, hg⟩
  have gV6 := Gr.trans gV5 hg
  have hS6 := hS5.gr hg
  clear hg
  go_wp2_with fail
  refine hK.out _ _ (fun hnz => ?s107) (fun _ => ?r107)
  case s107 => exact hS6
  clear hK K
  try simp only [Act.put, List.setIfInBounds_toArray, List.set_cons_zero, List.set_cons_succ]
  refine wpAnyZ_take (i := 17) (v := ?v108) rfl (by kernel_rfl) (fun _ _ _ h => h) (by rfl) (fun W hS => ?h108) hS6 ?r108
  case h108 =>
    obtain ⟨q0, q1, q2, q3, q4, r0, r1, r2, r3, r4, sz⟩ := hS
    go_simp
    rfl
  simp only [Act.put, List.setIfInBounds_toArray, List.set_cons_zero, List.set_cons_succ]
  refine wpAnyZ_take (i := 18) (v := ?v109) rfl (by kernel_rfl) (fun _ _ _ h => h) (by rfl) (fun W hS => ?h109) hS6 ?r109
  case h109 =>
    obtain ⟨q0, q1, q2, q3, q4, r0, r1, r2, r3, r4, sz⟩ := hS
    go_simp
    rfl
  simp only [Act.put, List.setIfInBounds_toArray, List.set_cons_zero, List.set_cons_succ]
  refine wpAnyZ_take (i := 19) (v := ?v110) rfl (by kernel_rfl) (fun _ _ _ h => h) (by rfl) (fun W hS => ?h110) hS6 ?r110
  case h110 =>
    obtain ⟨q0, q1, q2, q3, q4, r0, r1, r2, r3, r4, sz⟩ := hS
    go_simp
    rfl
  simp only [Act.put, List.setIfInBounds_toArray, List.set_cons_zero, List.set_cons_succ]
  refine wpAnyZ_take (i := 20) (v := ?v111) rfl (by kernel_rfl) (fun _ _ _ h => h) (by rfl) (fun W hS => ?h111) hS6 ?r111
  case h111 =>
    obtain ⟨q0, q1, q2, q3, q4, r0, r1, r2, r3, r4, sz⟩ := hS
    go_simp
    rfl
  simp only [Act.put, List.setIfInBounds_toArray, List.set_cons_zero, List.set_cons_succ]
  refine wpAnyZ_take (i := 21) (v := ?v112) rfl (by kernel_rfl) (fun _ _ _ h => h) (by rfl) (fun W hS => ?h112) hS6 ?r112
  case h112 =>
    obtain ⟨q0, q1, q2, q3, q4, r0, r1, r2, r3, r4, sz⟩ := hS
    go_simp
    rfl
  simp only [Act.put, List.setIfInBounds_toArray, List.set_cons_zero, List.set_cons_succ]
  refine wpAnyZ_take (i := 23) (v := ?v113) rfl (by kernel_rfl) (fun _ _ _ h => h) (by rfl) (fun W hS => ?h113) hS6 ?r113
  case h113 =>
    obtain ⟨q0, q1, q2, q3, q4, r0, r1, r2, r3, r4, sz⟩ := hS
    go_simp
    rfl
  simp only [Act.put, List.setIfInBounds_toArray, List.set_cons_zero, List.set_cons_succ]
  refine wpAnyZ_take (i := 24) (v := ?v114) rfl (by kernel_rfl) (fun _ _ _ h => h) (by rfl) (fun W hS => ?h114) hS6 ?r114
  case h114 =>
    obtain ⟨q0, q1, q2, q3, q4, r0, r1, r2, r3, r4, sz⟩ := hS
    go_simp
    rfl
  simp only [Act.put, List.setIfInBounds_toArray, List.set_cons_zero, List.set_cons_succ]
  refine wpAnyZ_ready (rs := [22]) (by kernel_rfl) (by simp) ?_
  refine AllReadyZ.cons rfl (by rfl) (fun K hK => ?_) ?_
  rotate_left
  exact AllReadyZ.nil
  go_simp
  refine (same_any a.name b.name a.start b.start a.step b.step a.cons b.cons a.vals b.vals A A' c c' _ hla hlb (hra.gr gV6) (hrb.gr gV6)).mono ?_; rintro e w16 ⟨⟨b1, rfl, hb1⟩, hg⟩
  have gV7 := Gr.trans gV6 hg
  have hS7 := hS6.gr hg
  have HB1 := Lib.hid hb1; clear hb1
  clear hg
  go_wp2_with fail
  refine hK.out _ _ (fun hnz => ?s115) (fun _ => ?r115)
  case s115 => exact hS7
  clear hK K
  try simp only [Act.put, List.setIfInBounds_toArray, List.set_cons_zero, List.set_cons_succ]
  refine wpAnyZ_ready (rs := [25]) (by kernel_rfl) (by simp) ?_
  refine AllReadyZ.cons rfl (by rfl) (fun K hK => ?_) ?_
  rotate_left
  exact AllReadyZ.nil
  go_simp
  refine (rsame_any a.name b.name a.start b.start a.step b.step a.cons b.cons a.vals b.vals A A' c c' _ hla hlb (hra.gr gV7) (hrb.gr gV7)).mono ?_; rintro e w17 ⟨⟨b2, rfl, hb2⟩, hg⟩
  have gV8 := Gr.trans gV7 hg
  have hS8 := hS7.gr hg
  have hb : b2 = b1 := by have h1 := HB1.out; cases b1 <;> cases b2 <;> simp_all
  subst hb
  clear hb2 HB1
  clear hg
  go_wp2_with fail
  refine hK.out _ _ (fun hnz => ?s116) (fun _ => ?r116)
  case s116 => exact hS8
  clear hK K
  try simp only [Act.put, List.setIfInBounds_toArray, List.set_cons_zero, List.set_cons_succ]
  refine wpAnyZ_take (i := 26) (v := ?v117) rfl (by kernel_rfl) (fun _ _ _ h => h) (by rfl) (fun W hS => ?h117) hS8 ?r117
  case h117 =>
    obtain ⟨q0, q1, q2, q3, q4, r0, r1, r2, r3, r4, sz⟩ := hS
    go_simp
    rfl
  simp only [Act.put, List.setIfInBounds_toArray, List.set_cons_zero, List.set_cons_succ]
  refine wpAnyZ_take (i := 27) (v := ?v118) rfl (by kernel_rfl) (fun _ _ _ h => h) (by rfl) (fun W hS => ?h118) hS8 ?r118
  case h118 =>
    obtain ⟨q0, q1, q2, q3, q4, r0, r1, r2, r3, r4, sz⟩ := hS
    go_simp
    rfl
  simp only [Act.put, List.setIfInBounds_toArray, List.set_cons_zero, List.set_cons_succ]
  refine wpAnyZ_take (i := 28) (v := ?v119) rfl (by kernel_rfl) (fun _ _ _ h => h) (by rfl) (fun W hS => ?h119) hS8 ?r119
  case h119 =>
    obtain ⟨q0, q1, q2, q3, q4, r0, r1, r2, r3, r4, sz⟩ := hS
    go_simp
    rfl
  simp only [Act.put, List.setIfInBounds_toArray, List.set_cons_zero, List.set_cons_succ]
  refine wpAnyZ_take (i := 29) (v := ?v120) rfl (by kernel_rfl) (fun _ _ _ h => h) (by rfl) (fun W hS => ?h120) hS8 ?r120
  case h120 =>
    obtain ⟨q0, q1, q2, q3, q4, r0, r1, r2, r3, r4, sz⟩ := hS
    go_simp
    rfl
  simp only [Act.put, List.setIfInBounds_toArray, List.set_cons_zero, List.set_cons_succ]
  refine wpAnyZ_take (i := 31) (v := ?v121) rfl (by kernel_rfl) (fun _ _ _ h => h) (by rfl) (fun W hS => ?h121) hS8 ?r121
  case h121 =>
    obtain ⟨q0, q1, q2, q3, q4, r0, r1, r2, r3, r4, sz⟩ := hS
    go_simp
    rfl
  simp only [Act.put, List.setIfInBounds_toArray, List.set_cons_zero, List.set_cons_succ]
  refine wpAnyZ_ready (rs := [30]) (by kernel_rfl) (by simp) ?_
  refine AllReadyZ.cons rfl (by rfl) (fun K hK => ?_) ?_
  rotate_left
  exact AllReadyZ.nil
  go_simp
  refine (own_any a A c _ hla (hra.gr gV8)).mono ?_; rintro e w18 ⟨A5, c5, rfl, hr5, hg, _⟩
  have gV9 := Gr.trans gV8 hg
  have hS9 := hS8.gr hg
  clear hg
  go_wp2_with fail
  refine hK.out _ _ (fun hnz => ?s122) (fun _ => ?r122)
  case s122 => exact hS9
  clear hK K
  try simp only [Act.put, List.setIfInBounds_toArray, List.set_cons_zero, List.set_cons_succ]
  refine wpAnyZ_ready (rs := [32]) (by kernel_rfl) (by simp) ?_
  refine AllReadyZ.cons rfl (by rfl) (fun K hK => ?_) ?_
  rotate_left
  exact AllReadyZ.nil
  go_simp
  refine (same_self a A5 A c5 c _ hla hr5 (hra.gr gV9)).mono ?_; rintro e w19 ⟨rfl, hg⟩
  have gV10 := Gr.trans gV9 hg
  have hS10 := hS9.gr hg
  clear hg
  go_wp2_with fail
  refine hK.out _ _ (fun hnz => ?s123) (fun _ => ?r123)
  case s123 => exact hS10
  clear hK K
  try simp only [Act.put, List.setIfInBounds_toArray, List.set_cons_zero, List.set_cons_succ]
  refine wpAnyZ_take (i := 33) (v := ?v124) rfl (by kernel_rfl) (fun _ _ _ h => h) (by rfl) (fun W hS => ?h124) hS10 ?r124
  case h124 =>
    obtain ⟨q0, q1, q2, q3, q4, r0, r1, r2, r3, r4, sz⟩ := hS
    go_simp
    rfl
  simp only [Act.put, List.setIfInBounds_toArray, List.set_cons_zero, List.set_cons_succ]
  refine wpAnyZ_take (i := 34) (v := ?v125) rfl (by kernel_rfl) (fun _ _ _ h => h) (by rfl) (fun W hS => ?h125) hS10 ?r125
  case h125 =>
    obtain ⟨q0, q1, q2, q3, q4, r0, r1, r2, r3, r4, sz⟩ := hS
    go_simp
    rfl
  simp only [Act.put, List.setIfInBounds_toArray, List.set_cons_zero, List.set_cons_succ]
  refine wpAnyZ_ready (rs := [35]) (by kernel_rfl) (by simp) ?_
  refine AllReadyZ.cons rfl (by rfl) (fun K hK => ?_) ?_
  rotate_left
  exact AllReadyZ.nil
  go_simp
  refine (known18_any _).mono ?_; rintro e w20 ⟨rfl, hg⟩
  have gV11 := Gr.trans gV10 hg
  have hS11 := hS10.gr hg
  clear hg
  go_wp2_with fail
  refine hK.out _ _ (fun hnz => ?s126) (fun _ => ?r126)
  case s126 => exact hS11
  clear hK K
  try simp only [Act.put, List.setIfInBounds_toArray, List.set_cons_zero, List.set_cons_succ]
  refine wpAnyZ_take (i := 36) (v := ?v127) rfl (by kernel_rfl) (fun _ _ _ h => h) (by rfl) (fun W hS => ?h127) hS11 ?r127
  case h127 =>
    obtain ⟨q0, q1, q2, q3, q4, r0, r1, r2, r3, r4, sz⟩ := hS
    go_simp
    rfl
  simp only [Act.put, List.setIfInBounds_toArray, List.set_cons_zero, List.set_cons_succ]
  refine wpAnyZ_ready (rs := [37]) (by kernel_rfl) (by simp) ?_
  refine AllReadyZ.cons rfl (by rfl) (fun K hK => ?_) ?_
  rotate_left
  exact AllReadyZ.nil
  go_simp
  refine hK.out _ _ (fun hnz => ?s128) (fun _ => ?r128)
  case s128 => exact absurd rfl hnz
  clear hK K
  try simp only [Act.put, List.setIfInBounds_toArray, List.set_cons_zero, List.set_cons_succ]
  refine wpAnyZ_done (by kernel_rfl) ?_ _
  go_wp2
  go_ret
  exact ⟨rfl, gV11⟩
end Go.Proofs.Ytoikpkgogncdhaa
