/- The law SeriesItself of chapter 18, walked over the contracts. -/
import Derived.Test.YtoikpkgogncdhaaSrJoin
import Derived.Test.YtoikpkgogncdhaaSrBuck
namespace Go.Proofs.Ytoikpkgogncdhaa
set_option linter.unusedVariables false
set_option linter.unusedSimpArgs false
open Go.RowKit

theorem step_self {s : Sr} (h : Ok s) : stepS [s] = if 16777216 < s.step then 0 else s.step.toNat := by
  have hp := h.p0
  show comN 1 s.step.toNat = _
  unfold comN
  rw [Nat.gcd_one_left, Nat.div_one, Nat.one_mul]
  by_cases hb : 16777216 < s.step
  · rw [if_pos hb, if_pos]
    rw [Nat.div_eq_of_lt (by omega)]; exact Nat.one_pos
  · rw [if_neg hb, if_neg]
    have := (Nat.le_div_iff_mul_le (show 0 < s.step.toNat by omega)).2 (show 1 * s.step.toNat ≤ 16777216 by omega)
    omega
theorem join_self_big {s : Sr} (h : Ok s) (hb : 16777216 < s.step) : errJ [s] = 13 := by
  unfold errJ
  rw [if_pos (by simp [(isS_iff s).2 h]), if_neg (by simp), if_pos (by rw [step_self h, if_pos hb])]
theorem join_self {s : Sr} (h : Ok s) (hb : s.step ≤ 16777216) (hl : (s.vals.length : Int) ≤ 120) :
    errJ [s] = 0 ∧ ∃ T, joinS [s] = [T] ∧ (s.start % s.step = 0 → T = s) := by
  have hp := h.p0; have hs0 := h.s0; have hs1 := h.s1
  have hst : (stepS [s] : Int) = s.step := by rw [step_self h, if_neg (by omega)]; exact Int.toNat_of_nonneg (by omega)
  have hst0 : stepS [s] ≠ 0 := by omega
  have hmin : minS [s] 4294967295 = s.start := by show min 4294967295 s.start = s.start; omega
  have he : endS s = s.start + s.vals.length * s.step := by unfold endS; rw [if_pos ((isS_iff s).2 h)]
  have hm0 : 0 ≤ (s.vals.length : Int) * s.step := Int.mul_nonneg (by omega) (by omega)
  have hlast : lastS [s] = s.start + s.vals.length * s.step := by show max 0 (endS s) = _; rw [he]; omega
  have hsj : startJ [s] = s.start - s.start % s.step := by unfold startJ; rw [hmin, hst]
  have r0 := Int.emod_nonneg s.start (b := s.step) (by omega)
  have r1 := Int.emod_lt_of_pos s.start (b := s.step) (by omega)
  have hcj : countJ [s] = upI (s.vals.length * s.step + s.start % s.step) s.step := by
    unfold countJ; rw [hlast, hsj, hst]; congr 1; omega
  obtain ⟨u0, u1, u2⟩ := upI_facts (n := s.vals.length * s.step + s.start % s.step) (k := s.step) (by omega) hp
  have hc : countJ [s] ≤ 131072 := by
    rw [hcj]
    rcases (show upI (s.vals.length * s.step + s.start % s.step) s.step ≤ 131072 ∨ 131073 ≤ upI (s.vals.length * s.step + s.start % s.step) s.step by omega) with h1 | h1
    · exact h1
    · exfalso
      have h2 : 131073 * s.step ≤ upI (s.vals.length * s.step + s.start % s.step) s.step * s.step := Int.mul_le_mul_of_nonneg_right h1 (by omega)
      have h3 : (s.vals.length : Int) * s.step ≤ 120 * s.step := Int.mul_le_mul_of_nonneg_right hl (by omega)
      omega
  have herr : errJ [s] = 0 := by
    unfold errJ
    rw [if_pos (by simp [(isS_iff s).2 h]), if_neg (by simp), if_neg hst0, if_neg (by omega)]
  refine ⟨herr, fitS s (startJ [s]) (stepS [s] : Int) (countJ [s]), ?_, fun hz => ?_⟩
  · unfold joinS; rw [if_pos herr]; rfl
  · rw [hsj, hst, hcj, hz]
    have hu : upI (s.vals.length * s.step + 0) s.step = s.vals.length := by
      rw [hz] at u0 u1 u2
      generalize upI (s.vals.length * s.step + 0) s.step = u at *
      rcases (show u = (s.vals.length : Int) ∨ u + 1 ≤ (s.vals.length : Int) ∨ (s.vals.length : Int) + 1 ≤ u by omega) with h1 | h1 | h1
      · exact h1
      · exfalso
        have h2 : (u + 1) * s.step ≤ (s.vals.length : Int) * s.step := Int.mul_le_mul_of_nonneg_right h1 (by omega)
        rw [Int.add_mul] at h2
        omega
      · exfalso
        have h2 : ((s.vals.length : Int) + 1) * s.step ≤ u * s.step := Int.mul_le_mul_of_nonneg_right h1 (by omega)
        rw [Int.add_mul] at h2
        omega
    rw [hu, Int.sub_zero]
    exact fit_itself h

set_option maxRecDepth 100000 in
set_option maxHeartbeats 6400000 in
theorem law_SeriesItself (s : Sr) (A : Option Addr) (c : Nat) (w : World) (hcap : s.vals.length ≤ c) (hr : Rv w A s.vals) :
    Calls Try.prog 8 #[.agg #[.string s.name, .int .i64 s.start, .int .i64 s.step, .slice A s.vals.length c, .int .i64 s.cons]] w fun e w' => e = .returned (.bool true) ∧ Gr w w' := by
  obtain ⟨W, hW⟩ : ∃ W, W = (w.alloc (.cells #[.string s.name, .int .i64 s.start, .int .i64 s.step, .slice A s.vals.length c, .int .i64 s.cons] 24)) := ⟨_, rfl⟩
  have hgW : Gr w W := by rw [hW]; exact Gr.alloc (Gr.refl _) _
  have hWz : W.heap.size = w.heap.size + 1 := by rw [hW]; simp
  have hQ : FQ s A c w.heap.size W := by
    rw [hW]
    refine ⟨?_, ?_, ?_, ?_, ?_, ?_⟩
    all_goals first | (go_simp; done) | (simp; done)
  have hRl := Rl.new (W := W) hWz.symm 24 [⟨s, A, c⟩]
  have HH := Lib.hid (heavy_any (some ⟨w.heap.size + 1, 0, none⟩) 1 [⟨s, A, c⟩] _ hRl)
  have hQ2 := hQ.gr (Gr.alloc (Gr.refl W) (.cells (scells [⟨s, A, c⟩]).toArray 24))
  have hg2 := Gr.alloc hgW (.cells (scells [⟨s, A, c⟩]).toArray 24)
  rw [hW] at HH hQ2 hg2
  clear hQ hgW hWz hRl hW
  go_enter Try.func8, Try.ntmps8
  go_wp2_with fail
  refine HH.out.mono ?_
  rintro e w1 ⟨⟨b, rfl, hb⟩, hg⟩
  have hQ1 := hQ2.gr hg
  have hgw := Gr.trans hg2 hg
  clear hQ2 hg2 hg HH
  cases b
  case true =>
    go_wp2
    go_ret
    exact ⟨rfl, hgw⟩
  obtain ⟨_, hLt⟩ := hb rfl
  have hLs := hLt ⟨s, A, c⟩ (by simp)
  have hl120 : (s.vals.length : Int) ≤ 120 := hLs.1
  have hl : s.vals.length ≤ 1000000 := by omega
  clear hLt hLs hb
  obtain ⟨q0, q1, q2, q3, q4, sz⟩ := id hQ1
  have QI := fun w hr => rsis_any s A c w hr
  cases hi : isS s
  case false =>
    simp only [hi] at QI
    go_wp2_with fail
    refine (QI _ (hr.gr hgw)).mono ?_
    rintro e w2 ⟨rfl, hg⟩
    go_wp2
    go_ret
    exact ⟨rfl, Gr.trans hgw hg⟩
  simp only [hi] at QI
  go_wp2_with fail
  refine (QI _ (hr.gr hgw)).mono ?_
  rintro e w2 ⟨rfl, hg⟩
  have hQ2 := hQ1.gr hg
  replace hgw := Gr.trans hgw hg
  clear hQ1 hg QI q0 q1 q2 q3 q4 sz
  obtain ⟨q0, q1, q2, q3, q4, sz⟩ := id hQ2
  have ho := (isS_iff s).1 hi
  have b0 := ho.s0; have b1 := ho.s1; have b2 := ho.p0; have b3 := ho.p1; have b4 := ho.len
  have HOK := Lib.hid ho
  have HF1 : Hid (∀ w, Rv w A s.vals → Calls Try.prog 13 #[.agg #[.string s.name, .int .i64 s.start, .int .i64 s.step, .slice A s.vals.length c, .int .i64 s.cons], .int .i64 s.start, .int .i64 s.step, .int .i64 s.vals.length] w (RetS s w)) := Lib.hid (fun w hr => by
    have h := fit_any s A c s.start s.step s.vals.length w hl hcap hr
    rw [fit_itself ho] at h
    exact h)
  have HJ : Hid (∀ w B, B < w.heap.size → Rv w A s.vals → Rl w (some ⟨B, 0, none⟩) [⟨s, A, c⟩] → Calls Try.prog 29 #[.slice (some ⟨B, 0, none⟩) 1 1] w (RetJ [s] w)) := Lib.hid (fun w B _ hr hl' =>
    join_any (some ⟨B, 0, none⟩) 1 [⟨s, A, c⟩] w (by simp) (fun x hx => by rw [List.mem_singleton.1 hx]; exact hl) (fun x hx => by rw [List.mem_singleton.1 hx]; exact hcap) hl' (fun x hx => by rw [List.mem_singleton.1 hx]; exact hr))
  clear ho
  go_wp2_with fail
  refine (HF1.out _ (hr.gr hgw)).mono ?_
  rintro e w5 ⟨A5, c5, rfl, hr5, hg5, _⟩
  have g5 := Gr.trans hgw hg5
  have hQ5 := hQ2.gr hg5
  clear q0 q1 q2 q3 q4 sz hg5 hgw hQ2
  have hFB0 : FX s s A A5 c c5 w.heap.size w5.heap.size (w5.alloc (.cells #[.string s.name, .int .i64 s.start, .int .i64 s.step, .slice A5 s.vals.length c5, .int .i64 s.cons] 24)) := by
    obtain ⟨q0, q1, q2, q3, q4, sz⟩ := hQ5
    refine ⟨?_, ?_, ?_, ?_, ?_, ?_, ?_, ?_, ?_, ?_, ?_, ?_⟩
    all_goals first | (go_simp; done) | (simp; done) | (simp; omega)
  obtain ⟨V, hV⟩ : ∃ V, V = w5.alloc (.cells #[.string s.name, .int .i64 s.start, .int .i64 s.step, .slice A5 s.vals.length c5, .int .i64 s.cons] 24) := ⟨_, rfl⟩
  have gV : Gr w5 V := by rw [hV]; exact Gr.alloc (Gr.refl _) _
  have hVz : V.heap.size = w5.heap.size + 1 := by rw [hV]; simp
  have hRj := Rl.new (W := V) hVz.symm 24 [⟨s, A, c⟩]
  have gV2 := Gr.trans gV (Gr.alloc (Gr.refl V) (.cells (scells [⟨s, A, c⟩]).toArray 24))
  have HJ2 := Lib.hid (HJ.out _ (w5.heap.size + 1) (by simp; omega) (hr.gr (Gr.trans g5 gV2)) hRj)
  have hFB1 := hFB0.gr (hV ▸ Gr.alloc (Gr.refl V) (.cells (scells [⟨s, A, c⟩]).toArray 24))
  rw [hV] at HJ2 gV2
  clear hRj hVz gV hV HJ HF1 hQ5
  obtain ⟨q0, q1, q2, q3, q4, x0, x1, x2, x3, x4, sq, sz⟩ := id hFB0
  go_wp2_with fail
  refine HJ2.out.mono ?_
  rintro e wj ⟨Aj, M, cj, rfl, hMj, hRl, hLie, hgj⟩
  have hFB := hFB1.gr hgj
  have gj := Gr.trans g5 (Gr.trans gV2 hgj)
  have hr5j := hr5.gr (Gr.trans gV2 hgj)
  clear q0 q1 q2 q3 q4 x0 x1 x2 x3 x4 sq sz hFB0 hFB1 gV2 hgj HJ2 g5 hr5
  obtain ⟨q0, q1, q2, q3, q4, x0, x1, x2, x3, x4, sq, sz⟩ := id hFB
  by_cases hbig : 16777216 < s.step
  case pos =>
    rw [join_self_big HOK.out hbig]
    have hM0 : M = [] := by rw [join_no (by rw [join_self_big HOK.out hbig]; decide)] at hMj; exact List.map_eq_nil_iff.1 hMj
    subst hM0
    clear hMj hRl hLie
    go_wp2_with fail
    refine (same_self s A5 A c5 c _ hl hr5j (hr.gr gj)).mono ?_; rintro e w7 ⟨rfl, hg7⟩
    go_wp2_with fail
    refine (known18_any _).mono ?_; rintro e w8 ⟨rfl, hg8⟩
    go_wp2
    go_ret
    exact ⟨rfl, Gr.trans gj (Gr.trans hg7 hg8)⟩
  obtain ⟨herr, T, hT, hTs⟩ := join_self HOK.out (by omega) hl120
  rw [herr]
  rw [hT] at hMj
  match M, hMj, hRl, hLie with
  | [y], hMj, hRl, hLie =>
  have hy : y.s = T := by simpa using hMj
  have hry := hLie y (by simp)
  obtain ⟨adj, rfl, hbj, m0, m1, m2, m3, m4⟩ := hRl.at (k := 0) (by simp)
  rw [show adj.add (0 * 5) = adj by simp [Addr.add]] at m0 m1 m2 m3 m4
  simp only [List.getElem_cons_zero] at m0 m1 m2 m3 m4
  have hs0 : s.step ≠ 0 := by omega
  have hs0' : (s.step == 0) = false := beq_eq_false_iff_ne.2 hs0
  have htm : Int.tmod s.start s.step = s.start % s.step := Int.tmod_eq_emod_of_nonneg b0
  by_cases hz : s.start % s.step = 0
  · obtain ⟨ys, yA, yc⟩ := y
    have : s = ys := by rw [← hTs hz]; exact hy.symm
    subst this
    rw [hz] at htm
    clear hy hTs hT herr hMj hRl hLie hz
    go_wp2
    clear q0 q1 q2 q3 q4 x0 x1 x2 x3 x4 sq sz
    refine region_Q (by kernel_rfl) (by kernel_rfl) ?_
    refine q_val (v := ?qv1) (by rfl) (fun W hW => ?qh1) ?qr1
    case qh1 =>
        obtain ⟨q0, q1, q2, q3, q4, x0, x1, x2, x3, x4, sq, sz⟩ := hFB.gr hW
        go_simp
        rfl
    simp only [Act.put, List.setIfInBounds_toArray, List.set_cons_zero, List.set_cons_succ]
    refine q_val (v := ?qv2) (by rfl) (fun W hW => ?qh2) ?qr2
    case qh2 =>
        obtain ⟨q0, q1, q2, q3, q4, x0, x1, x2, x3, x4, sq, sz⟩ := hFB.gr hW
        go_simp
        rfl
    simp only [Act.put, List.setIfInBounds_toArray, List.set_cons_zero, List.set_cons_succ]
    refine q_call (v := .bool true) (f := ?qf3) (args := ?qa3) (by rfl) (fun W hW => ?qh3) (fun W hW => ?qc3) ?qr3
    case qh3 =>
      go_simp
      constructor
      · rfl
      · rfl
    case qc3 => exact (same_self s A5 A c5 c W hl (hr5j.gr hW) ((hr.gr gj).gr hW)).mono (fun e w' h => ⟨h.1, Gr.trans hW h.2⟩)
    simp only [Act.put, List.setIfInBounds_toArray, List.set_cons_zero, List.set_cons_succ]
    refine q_val (v := ?qv4) (by rfl) (fun W hW => ?qh4) ?qr4
    case qh4 =>
        go_simp
        rfl
    simp only [Act.put, List.setIfInBounds_toArray, List.set_cons_zero, List.set_cons_succ]
    refine q_val (v := ?qv5) (by rfl) (fun W hW => ?qh5) ?qr5
    case qh5 =>
        go_simp
        rfl
    simp only [Act.put, List.setIfInBounds_toArray, List.set_cons_zero, List.set_cons_succ]
    refine q_val (v := ?qv6) (by rfl) (fun W hW => ?qh6) ?qr6
    case qh6 =>
        obtain ⟨q0, q1, q2, q3, q4, x0, x1, x2, x3, x4, sq, sz⟩ := hFB.gr hW
        go_simp
        rfl
    simp only [Act.put, List.setIfInBounds_toArray, List.set_cons_zero, List.set_cons_succ]
    refine q_val (v := ?qv7) (by rfl) (fun W hW => ?qh7) ?qr7
    case qh7 =>
        go_simp
        rfl
    simp only [Act.put, List.setIfInBounds_toArray, List.set_cons_zero, List.set_cons_succ]
    refine q_val (v := ?qv8) (by rfl) (fun W hW => ?qh8) ?qr8
    case qh8 =>
        obtain ⟨q0, q1, q2, q3, q4, x0, x1, x2, x3, x4, sq, sz⟩ := hFB.gr hW
        go_simp
        rfl
    simp only [Act.put, List.setIfInBounds_toArray, List.set_cons_zero, List.set_cons_succ]
    refine q_val (v := ?qv9) (by rfl) (fun W hW => ?qh9) ?qr9
    case qh9 =>
        go_simp
        rfl
    simp only [Act.put, List.setIfInBounds_toArray, List.set_cons_zero, List.set_cons_succ]
    refine q_val (v := ?qv10) (by rfl) (fun W hW => ?qh10) ?qr10
    case qh10 =>
        go_simp
        rfl
    simp only [Act.put, List.setIfInBounds_toArray, List.set_cons_zero, List.set_cons_succ]
    refine q_val (v := ?qv11) (by rfl) (fun W hW => ?qh11) ?qr11
    case qh11 =>
        go_simp
        rfl
    simp only [Act.put, List.setIfInBounds_toArray, List.set_cons_zero, List.set_cons_succ]
    refine q_val (v := ?qv12) (by rfl) (fun W hW => ?qh12) ?qr12
    case qh12 =>
        go_simp
        rfl
    simp only [Act.put, List.setIfInBounds_toArray, List.set_cons_zero, List.set_cons_succ]
    refine q_val (v := ?qv13) (by rfl) (fun W hW => ?qh13) ?qr13
    case qh13 =>
        go_simp
        rfl
    simp only [Act.put, List.setIfInBounds_toArray, List.set_cons_zero, List.set_cons_succ]
    refine q_val (v := ?qv14) (by rfl) (fun W hW => ?qh14) ?qr14
    case qh14 =>
        have l0 := (hW.cell (p := adj) hbj).trans m0
        have l1 := (hW.cell (p := ⟨adj.block, adj.off + 1, none⟩) hbj).trans m1
        have l2 := (hW.cell (p := ⟨adj.block, adj.off + 2, none⟩) hbj).trans m2
        have l3 := (hW.cell (p := ⟨adj.block, adj.off + 3, none⟩) hbj).trans m3
        have l4 := (hW.cell (p := ⟨adj.block, adj.off + 4, none⟩) hbj).trans m4
        go_simp
        rfl
    simp only [Act.put, List.setIfInBounds_toArray, List.set_cons_zero, List.set_cons_succ]
    refine q_val (v := ?qv15) (by rfl) (fun W hW => ?qh15) ?qr15
    case qh15 =>
        obtain ⟨q0, q1, q2, q3, q4, x0, x1, x2, x3, x4, sq, sz⟩ := hFB.gr hW
        go_simp
        rfl
    simp only [Act.put, List.setIfInBounds_toArray, List.set_cons_zero, List.set_cons_succ]
    refine q_call (v := .bool true) (f := ?qf16) (args := ?qa16) (by rfl) (fun W hW => ?qh16) (fun W hW => ?qc16) ?qr16
    case qh16 =>
      go_simp
      constructor
      · rfl
      · rfl
    case qc16 => exact (same_self s yA A yc c W hl (hry.gr hW) ((hr.gr gj).gr hW)).mono (fun e w' h => ⟨h.1, Gr.trans hW h.2⟩)
    simp only [Act.put, List.setIfInBounds_toArray, List.set_cons_zero, List.set_cons_succ]
    refine q_val (v := ?qv17) (by rfl) (fun W hW => ?qh17) ?qr17
    case qh17 =>
        go_simp
        rfl
    simp only [Act.put, List.setIfInBounds_toArray, List.set_cons_zero, List.set_cons_succ]
    refine q_val (v := ?qv18) (by rfl) (fun W hW => ?qh18) ?qr18
    case qh18 =>
        go_simp
        rfl
    simp only [Act.put, List.setIfInBounds_toArray, List.set_cons_zero, List.set_cons_succ]
    refine q_val (v := ?qv19) (by rfl) (fun W hW => ?qh19) ?qr19
    case qh19 =>
        go_simp
        rfl
    simp only [Act.put, List.setIfInBounds_toArray, List.set_cons_zero, List.set_cons_succ]
    refine q_call (v := .bool true) (f := ?qf20) (args := ?qa20) (by rfl) (fun W hW => ?qh20) (fun W hW => ?qc20) ?qr20
    case qh20 =>
      go_simp
      constructor
      · rfl
      · rfl
    case qc20 => exact (known18_any W).mono (fun e w' h => ⟨h.1, Gr.trans hW h.2⟩)
    simp only [Act.put, List.setIfInBounds_toArray, List.set_cons_zero, List.set_cons_succ]
    refine q_val (v := ?qv21) (by rfl) (fun W hW => ?qh21) ?qr21
    case qh21 =>
        go_simp
        rfl
    simp only [Act.put, List.setIfInBounds_toArray, List.set_cons_zero, List.set_cons_succ]
    refine q_val (v := ?qv22) (by rfl) (fun W hW => ?qh22) ?qr22
    case qh22 =>
        go_simp
        rfl
    simp only [Act.put, List.setIfInBounds_toArray, List.set_cons_zero, List.set_cons_succ]
    refine wpQuiet_nil ?_
    intro w9 hg9
    go_wp2
    go_ret
    exact ⟨rfl, Gr.trans gj hg9⟩
  · have hzb : (s.start % s.step == 0) = false := beq_eq_false_iff_ne.2 hz
    have hzb' : (s.start % s.step != 0) = true := by simp [bne, hzb]
    obtain ⟨r, hr0⟩ : ∃ r, s.start % s.step = r := ⟨_, rfl⟩
    rw [hr0] at htm hzb hzb'
    clear hy hTs hT herr hMj hRl hLie hz hr0 m0 m1 m2 m3 m4
    go_wp2
    clear q0 q1 q2 q3 q4 x0 x1 x2 x3 x4 sq sz
    refine region_Q (by kernel_rfl) (by kernel_rfl) ?_
    refine q_val (v := ?qv23) (by rfl) (fun W hW => ?qh23) ?qr23
    case qh23 =>
        obtain ⟨q0, q1, q2, q3, q4, x0, x1, x2, x3, x4, sq, sz⟩ := hFB.gr hW
        go_simp
        rfl
    simp only [Act.put, List.setIfInBounds_toArray, List.set_cons_zero, List.set_cons_succ]
    refine q_val (v := ?qv24) (by rfl) (fun W hW => ?qh24) ?qr24
    case qh24 =>
        obtain ⟨q0, q1, q2, q3, q4, x0, x1, x2, x3, x4, sq, sz⟩ := hFB.gr hW
        go_simp
        rfl
    simp only [Act.put, List.setIfInBounds_toArray, List.set_cons_zero, List.set_cons_succ]
    refine q_call (v := .bool true) (f := ?qf25) (args := ?qa25) (by rfl) (fun W hW => ?qh25) (fun W hW => ?qc25) ?qr25
    case qh25 =>
      go_simp
      constructor
      · rfl
      · rfl
    case qc25 => exact (same_self s A5 A c5 c W hl (hr5j.gr hW) ((hr.gr gj).gr hW)).mono (fun e w' h => ⟨h.1, Gr.trans hW h.2⟩)
    simp only [Act.put, List.setIfInBounds_toArray, List.set_cons_zero, List.set_cons_succ]
    refine q_val (v := ?qv26) (by rfl) (fun W hW => ?qh26) ?qr26
    case qh26 =>
        go_simp
        rfl
    simp only [Act.put, List.setIfInBounds_toArray, List.set_cons_zero, List.set_cons_succ]
    refine q_val (v := ?qv27) (by rfl) (fun W hW => ?qh27) ?qr27
    case qh27 =>
        go_simp
        rfl
    simp only [Act.put, List.setIfInBounds_toArray, List.set_cons_zero, List.set_cons_succ]
    refine q_val (v := ?qv28) (by rfl) (fun W hW => ?qh28) ?qr28
    case qh28 =>
        obtain ⟨q0, q1, q2, q3, q4, x0, x1, x2, x3, x4, sq, sz⟩ := hFB.gr hW
        go_simp
        rfl
    simp only [Act.put, List.setIfInBounds_toArray, List.set_cons_zero, List.set_cons_succ]
    refine q_val (v := ?qv29) (by rfl) (fun W hW => ?qh29) ?qr29
    case qh29 =>
        go_simp
        rfl
    simp only [Act.put, List.setIfInBounds_toArray, List.set_cons_zero, List.set_cons_succ]
    refine q_val (v := ?qv30) (by rfl) (fun W hW => ?qh30) ?qr30
    case qh30 =>
        obtain ⟨q0, q1, q2, q3, q4, x0, x1, x2, x3, x4, sq, sz⟩ := hFB.gr hW
        go_simp
        rfl
    simp only [Act.put, List.setIfInBounds_toArray, List.set_cons_zero, List.set_cons_succ]
    refine q_val (v := ?qv31) (by rfl) (fun W hW => ?qh31) ?qr31
    case qh31 =>
        go_simp
        rfl
    simp only [Act.put, List.setIfInBounds_toArray, List.set_cons_zero, List.set_cons_succ]
    refine q_val (v := ?qv32) (by rfl) (fun W hW => ?qh32) ?qr32
    case qh32 =>
        go_simp
        rfl
    simp only [Act.put, List.setIfInBounds_toArray, List.set_cons_zero, List.set_cons_succ]
    refine q_val (v := ?qv33) (by rfl) (fun W hW => ?qh33) ?qr33
    case qh33 =>
        go_simp
        rfl
    simp only [Act.put, List.setIfInBounds_toArray, List.set_cons_zero, List.set_cons_succ]
    refine q_skip (by rfl) ?_
    simp only [Act.put, List.setIfInBounds_toArray, List.set_cons_zero, List.set_cons_succ]
    refine q_skip (by rfl) ?_
    simp only [Act.put, List.setIfInBounds_toArray, List.set_cons_zero, List.set_cons_succ]
    refine q_skip (by rfl) ?_
    simp only [Act.put, List.setIfInBounds_toArray, List.set_cons_zero, List.set_cons_succ]
    refine q_skip (by rfl) ?_
    simp only [Act.put, List.setIfInBounds_toArray, List.set_cons_zero, List.set_cons_succ]
    refine q_skip (by rfl) ?_
    simp only [Act.put, List.setIfInBounds_toArray, List.set_cons_zero, List.set_cons_succ]
    refine q_val (v := ?qv34) (by rfl) (fun W hW => ?qh34) ?qr34
    case qh34 =>
        go_simp
        rfl
    simp only [Act.put, List.setIfInBounds_toArray, List.set_cons_zero, List.set_cons_succ]
    refine q_val (v := ?qv35) (by rfl) (fun W hW => ?qh35) ?qr35
    case qh35 =>
        go_simp
        rfl
    simp only [Act.put, List.setIfInBounds_toArray, List.set_cons_zero, List.set_cons_succ]
    refine q_val (v := ?qv36) (by rfl) (fun W hW => ?qh36) ?qr36
    case qh36 =>
        go_simp
        rfl
    simp only [Act.put, List.setIfInBounds_toArray, List.set_cons_zero, List.set_cons_succ]
    refine q_call (v := .bool true) (f := ?qf37) (args := ?qa37) (by rfl) (fun W hW => ?qh37) (fun W hW => ?qc37) ?qr37
    case qh37 =>
      go_simp
      constructor
      · rfl
      · rfl
    case qc37 => exact (known18_any W).mono (fun e w' h => ⟨h.1, Gr.trans hW h.2⟩)
    simp only [Act.put, List.setIfInBounds_toArray, List.set_cons_zero, List.set_cons_succ]
    refine q_val (v := ?qv38) (by rfl) (fun W hW => ?qh38) ?qr38
    case qh38 =>
        go_simp
        rfl
    simp only [Act.put, List.setIfInBounds_toArray, List.set_cons_zero, List.set_cons_succ]
    refine q_val (v := ?qv39) (by rfl) (fun W hW => ?qh39) ?qr39
    case qh39 =>
        go_simp
        rfl
    simp only [Act.put, List.setIfInBounds_toArray, List.set_cons_zero, List.set_cons_succ]
    refine wpQuiet_nil ?_
    intro w9 hg9
    go_wp2
    go_ret
    exact ⟨rfl, Gr.trans gj hg9⟩
end Go.Proofs.Ytoikpkgogncdhaa
