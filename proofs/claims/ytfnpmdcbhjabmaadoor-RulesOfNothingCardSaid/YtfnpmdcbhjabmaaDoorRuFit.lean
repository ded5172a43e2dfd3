/- Whether an archive may stand behind another one: whead.fits, side of the reference. -/
import Derived.Test.YtfnpmdcbhjabmaaDoorRuArc2
import Derived.Test.YtfnpmdcbhjabmaaDoorRegR
import Derived.Deep.Light
namespace Go.Proofs.YtfnpmdcbhjabmaaDoor
set_option linter.unusedVariables false
set_option linter.unusedSimpArgs false
open Go.RowKit

theorem oneOk_iff {a : Nat × Nat} : oneOk a = true ↔ 1 ≤ a.1 ∧ a.1 ≤ 16777216 ∧ 1 ≤ a.2 ∧ a.2 ≤ 16777216 := by
  simp only [oneOk, Bool.and_eq_true, Nat.ble_eq]
  constructor
  · rintro ⟨⟨⟨a, b⟩, c⟩, d⟩; exact ⟨a, b, c, d⟩
  · rintro ⟨a, b, c, d⟩; exact ⟨⟨⟨a, b⟩, c⟩, d⟩
theorem fits_eq (x1 x2 y1 y2 : Nat) : fitsS (x1, x2) (y1, y2) = (decide ((x1 : Int) < y1) && (((y1 : Int) % x1) == 0) && decide ((x1 : Int) * x2 < (y1 : Int) * y2) && decide ((y1 : Int) / x1 ≤ x2)) := by
  unfold fitsS
  simp only
  rw [Bool.eq_iff_iff]
  simp only [Bool.and_eq_true, Nat.blt_eq, Nat.ble_eq, decide_eq_true_eq, beq_iff_eq]
  rw [← Int.natCast_mul, ← Int.natCast_mul, ← Int.natCast_ediv, ← Int.natCast_emod]
  omega
theorem fits_int (x1 x2 y1 y2 : Int) (h1 : 1 ≤ x1) (h2 : x1 ≤ 16777216) (h3 : 1 ≤ y1) (h4 : y1 ≤ 16777216) : IntKind.i64.wrap (Int.tdiv y1 x1) = y1 / x1 ∧ Int.tmod y1 x1 = y1 % x1 ∧ wrap64 (y1 / x1) = y1 / x1 ∧ ¬ x1 = 0 := by
  rw [Int.tdiv_eq_ediv_of_nonneg (by omega), Int.tmod_eq_emod_of_nonneg (by omega)]
  have a := Int.ediv_nonneg (a := y1) (b := x1) (by omega) (by omega)
  have b := Int.ediv_le_self (a := y1) x1 (by omega)
  have c := Int.emod_nonneg y1 (b := x1) (by omega)
  have d := Int.emod_lt_of_pos y1 (b := x1) (by omega)
  exact ⟨IntWalk.i64_in (y1 / x1) (by omega), rfl, IntWalk.wrap64_in (y1 / x1) (by omega), by omega⟩
theorem prod_small (a b : Int) (h1 : 1 ≤ a) (h2 : a ≤ 16777216) (h3 : 1 ≤ b) (h4 : b ≤ 16777216) : IntKind.i64.wrap (a * b) = a * b := by
  have h5 : 0 ≤ a * b := Int.mul_nonneg (by omega) (by omega)
  have h6 : a * b ≤ 16777216 * 16777216 := Int.mul_le_mul h2 h4 (by omega) (by omega)
  exact IntWalk.i64_in (a * b) (by omega)
set_option maxRecDepth 100000 in
set_option maxHeartbeats 6400000 in
theorem whead_fits (x y : Nat × Nat) (hx : oneOk x = true) (hy : oneOk y = true) (w : World) : Calls Tryd.prog 28 #[.agg #[.int .i64 x.1, .int .i64 x.2], .agg #[.int .i64 y.1, .int .i64 y.2]] w fun e w' => e = .returned (.bool (fitsS x y)) ∧ Gr w w' := by
  obtain ⟨x1, x2⟩ := x
  obtain ⟨y1, y2⟩ := y
  obtain ⟨hx1, hx2, hx3, hx4⟩ := oneOk_iff.1 hx
  obtain ⟨hy1, hy2, hy3, hy4⟩ := oneOk_iff.1 hy
  simp only at hx1 hx2 hx3 hx4 hy1 hy2 hy3 hy4 ⊢
  obtain ⟨F, hF⟩ : ∃ F, F = fitsS (x1, x2) (y1, y2) := ⟨_, rfl⟩
  rw [← hF]
  have hFF := fits_int (x1 : Int) x2 y1 y2 (by omega) (by omega) (by omega) (by omega)
  have hm1 := prod_small (x1 : Int) x2 (by omega) (by omega) (by omega) (by omega)
  have hm2 := prod_small (y1 : Int) y2 (by omega) (by omega) (by omega) (by omega)
  have hfi : fitsS (x1, x2) (y1, y2) = (decide ((x1 : Int) < y1) && (((y1 : Int) % x1) == 0) && decide ((x1 : Int) * x2 < (y1 : Int) * y2) && decide ((y1 : Int) / x1 ≤ x2)) := fits_eq _ _ _ _
  rw [hfi] at hF
  have HF := Lib.hid hF
  obtain ⟨X1, hX1⟩ : ∃ X : Int, X = x1 := ⟨_, rfl⟩
  obtain ⟨X2, hX2⟩ : ∃ X : Int, X = x2 := ⟨_, rfl⟩
  obtain ⟨Y1, hY1⟩ : ∃ X : Int, X = y1 := ⟨_, rfl⟩
  obtain ⟨Y2, hY2⟩ : ∃ X : Int, X = y2 := ⟨_, rfl⟩
  have a1 : 1 ≤ X1 ∧ X1 ≤ 16777216 := by omega
  have a2 : 1 ≤ X2 ∧ X2 ≤ 16777216 := by omega
  have a3 : 1 ≤ Y1 ∧ Y1 ≤ 16777216 := by omega
  have a4 : 1 ≤ Y2 ∧ Y2 ≤ 16777216 := by omega
  simp only [← hX1, ← hX2, ← hY1, ← hY2] at HF hFF hm1 hm2 ⊢
  clear hX1 hX2 hY1 hY2 hF hfi hx hy hx1 hx2 hx3 hx4 hy1 hy2 hy3 hy4
  obtain ⟨V, hV⟩ : ∃ V, V = (w.alloc (.cells #[.int .i64 X1, .int .i64 X2] 44)).alloc (.cells #[.int .i64 Y1, .int .i64 Y2] 44) := ⟨_, rfl⟩
  have gV : Gr w V := by rw [hV]; exact Gr.alloc (Gr.alloc (Gr.refl w) _) _
  have hzx : w.heap.size < V.heap.size := by rw [hV]; simp; omega
  have hzy : w.heap.size + 1 < V.heap.size := by rw [hV]; simp
  have cx0 : V.cell? ⟨w.heap.size, 0, none⟩ = some (.int .i64 X1) := by rw [hV]; go_simp
  have cx1 : V.cell? ⟨w.heap.size, 1, none⟩ = some (.int .i64 X2) := by rw [hV]; go_simp
  have cy0 : V.cell? ⟨w.heap.size + 1, 0, none⟩ = some (.int .i64 Y1) := by rw [hV]; go_simp
  have cy1 : V.cell? ⟨w.heap.size + 1, 1, none⟩ = some (.int .i64 Y2) := by rw [hV]; go_simp
  have HV := Lib.hid hV
  have HG := Lib.hid gV
  clear hV gV
  obtain ⟨q1, q2, q3, q4⟩ := hFF
  by_cases h1 : X1 < Y1
  · have e1 : decide (X1 < Y1) = true := decide_eq_true h1
    cases h2 : (Y1 % X1 == 0)
    · clear q1 q3 hm1 hm2
      go_enter Tryd.func28, Tryd.ntmps28
      go_upto_region 1 with (fail)
      rw [← HV.out]
      clear HV
      refine region_R (by kernel_rfl) (by kernel_rfl) ?_
      refine r_val (v := ?qv1) (by kernel_rfl) (fun W hW => ?qh1) ?qr1
      case qh1 =>
        go_light
        go_simp
        rfl
      simp only [Act.put, List.setIfInBounds_toArray, List.set_cons_zero, List.set_cons_succ]
      refine r_val (v := ?qv2) (by kernel_rfl) (fun W hW => ?qh2) ?qr2
      case qh2 =>
        have g := (Below.cell hW (p := ⟨w.heap.size + 1, 0, none⟩) hzy).trans cy0
        go_light
        go_simp
        rfl
      simp only [Act.put, List.setIfInBounds_toArray, List.set_cons_zero, List.set_cons_succ]
      refine r_val (v := ?qv3) (by kernel_rfl) (fun W hW => ?qh3) ?qr3
      case qh3 =>
        go_light
        go_simp
        rfl
      simp only [Act.put, List.setIfInBounds_toArray, List.set_cons_zero, List.set_cons_succ]
      refine r_val (v := ?qv4) (by kernel_rfl) (fun W hW => ?qh4) ?qr4
      case qh4 =>
        have g := (Below.cell hW (p := ⟨w.heap.size, 0, none⟩) hzx).trans cx0
        go_light
        go_simp
        rfl
      simp only [Act.put, List.setIfInBounds_toArray, List.set_cons_zero, List.set_cons_succ]
      refine r_val (v := ?qv5) (by kernel_rfl) (fun W hW => ?qh5) ?qr5
      case qh5 =>
        go_light
        go_simp
        rfl
      simp only [Act.put, List.setIfInBounds_toArray, List.set_cons_zero, List.set_cons_succ]
      refine r_val (v := ?qv6) (by kernel_rfl) (fun W hW => ?qh6) ?qr6
      case qh6 =>
        go_light
        go_simp
        rfl
      simp only [Act.put, List.setIfInBounds_toArray, List.set_cons_zero, List.set_cons_succ]
      refine r_val (v := ?qv7) (by kernel_rfl) (fun W hW => ?qh7) ?qr7
      case qh7 =>
        go_light
        go_simp
        rfl
      simp only [Act.put, List.setIfInBounds_toArray, List.set_cons_zero, List.set_cons_succ]
      refine r_val (v := ?qv8) (by kernel_rfl) (fun W hW => ?qh8) ?qr8
      case qh8 =>
        have g := (Below.cell hW (p := ⟨w.heap.size + 1, 0, none⟩) hzy).trans cy0
        go_light
        go_simp
        rfl
      simp only [Act.put, List.setIfInBounds_toArray, List.set_cons_zero, List.set_cons_succ]
      refine r_val (v := ?qv9) (by kernel_rfl) (fun W hW => ?qh9) ?qr9
      case qh9 =>
        go_light
        go_simp
        rfl
      simp only [Act.put, List.setIfInBounds_toArray, List.set_cons_zero, List.set_cons_succ]
      refine r_val (v := ?qv10) (by kernel_rfl) (fun W hW => ?qh10) ?qr10
      case qh10 =>
        have g := (Below.cell hW (p := ⟨w.heap.size, 0, none⟩) hzx).trans cx0
        go_light
        go_simp
        rfl
      simp only [Act.put, List.setIfInBounds_toArray, List.set_cons_zero, List.set_cons_succ]
      refine r_val (v := ?qv11) (by kernel_rfl) (fun W hW => ?qh11) ?qr11
      case qh11 =>
        go_light
        go_simp
        rfl
      simp only [Act.put, List.setIfInBounds_toArray, List.set_cons_zero, List.set_cons_succ]
      refine r_val (v := ?qv12) (by kernel_rfl) (fun W hW => ?qh12) ?qr12
      case qh12 =>
        go_light
        go_simp
        rfl
      simp only [Act.put, List.setIfInBounds_toArray, List.set_cons_zero, List.set_cons_succ]
      refine r_val (v := ?qv13) (by kernel_rfl) (fun W hW => ?qh13) ?qr13
      case qh13 =>
        go_light
        go_simp
        rfl
      simp only [Act.put, List.setIfInBounds_toArray, List.set_cons_zero, List.set_cons_succ]
      refine r_val (v := ?qv14) (by kernel_rfl) (fun W hW => ?qh14) ?qr14
      case qh14 =>
        go_light
        go_simp
        rfl
      simp only [Act.put, List.setIfInBounds_toArray, List.set_cons_zero, List.set_cons_succ]
      refine r_skip (by kernel_rfl) ?_
      simp only [Act.put, List.setIfInBounds_toArray, List.set_cons_zero, List.set_cons_succ]
      refine r_skip (by kernel_rfl) ?_
      simp only [Act.put, List.setIfInBounds_toArray, List.set_cons_zero, List.set_cons_succ]
      refine r_skip (by kernel_rfl) ?_
      simp only [Act.put, List.setIfInBounds_toArray, List.set_cons_zero, List.set_cons_succ]
      refine r_skip (by kernel_rfl) ?_
      simp only [Act.put, List.setIfInBounds_toArray, List.set_cons_zero, List.set_cons_succ]
      refine r_skip (by kernel_rfl) ?_
      simp only [Act.put, List.setIfInBounds_toArray, List.set_cons_zero, List.set_cons_succ]
      refine r_skip (by kernel_rfl) ?_
      simp only [Act.put, List.setIfInBounds_toArray, List.set_cons_zero, List.set_cons_succ]
      refine r_skip (by kernel_rfl) ?_
      simp only [Act.put, List.setIfInBounds_toArray, List.set_cons_zero, List.set_cons_succ]
      refine r_skip (by kernel_rfl) ?_
      simp only [Act.put, List.setIfInBounds_toArray, List.set_cons_zero, List.set_cons_succ]
      refine r_skip (by kernel_rfl) ?_
      simp only [Act.put, List.setIfInBounds_toArray, List.set_cons_zero, List.set_cons_succ]
      refine r_skip (by kernel_rfl) ?_
      simp only [Act.put, List.setIfInBounds_toArray, List.set_cons_zero, List.set_cons_succ]
      refine r_skip (by kernel_rfl) ?_
      simp only [Act.put, List.setIfInBounds_toArray, List.set_cons_zero, List.set_cons_succ]
      refine r_val (v := ?qv15) (by kernel_rfl) (fun W hW => ?qh15) ?qr15
      case qh15 =>
        go_light
        go_simp
        rfl
      simp only [Act.put, List.setIfInBounds_toArray, List.set_cons_zero, List.set_cons_succ]
      refine r_val (v := ?qv16) (by kernel_rfl) (fun W hW => ?qh16) ?qr16
      case qh16 =>
        go_light
        go_simp
        rfl
      simp only [Act.put, List.setIfInBounds_toArray, List.set_cons_zero, List.set_cons_succ]
      refine r_skip (by kernel_rfl) ?_
      simp only [Act.put, List.setIfInBounds_toArray, List.set_cons_zero, List.set_cons_succ]
      refine r_skip (by kernel_rfl) ?_
      simp only [Act.put, List.setIfInBounds_toArray, List.set_cons_zero, List.set_cons_succ]
      refine r_skip (by kernel_rfl) ?_
      simp only [Act.put, List.setIfInBounds_toArray, List.set_cons_zero, List.set_cons_succ]
      refine r_skip (by kernel_rfl) ?_
      simp only [Act.put, List.setIfInBounds_toArray, List.set_cons_zero, List.set_cons_succ]
      refine r_skip (by kernel_rfl) ?_
      simp only [Act.put, List.setIfInBounds_toArray, List.set_cons_zero, List.set_cons_succ]
      refine r_skip (by kernel_rfl) ?_
      simp only [Act.put, List.setIfInBounds_toArray, List.set_cons_zero, List.set_cons_succ]
      refine r_skip (by kernel_rfl) ?_
      simp only [Act.put, List.setIfInBounds_toArray, List.set_cons_zero, List.set_cons_succ]
      refine r_skip (by kernel_rfl) ?_
      simp only [Act.put, List.setIfInBounds_toArray, List.set_cons_zero, List.set_cons_succ]
      refine r_val (v := ?qv17) (by kernel_rfl) (fun W hW => ?qh17) ?qr17
      case qh17 =>
        go_light
        go_simp
        rfl
      simp only [Act.put, List.setIfInBounds_toArray, List.set_cons_zero, List.set_cons_succ]
      refine r_val (v := ?qv18) (by kernel_rfl) (fun W hW => ?qh18) ?qr18
      case qh18 =>
        go_light
        go_simp
        rfl
      simp only [Act.put, List.setIfInBounds_toArray, List.set_cons_zero, List.set_cons_succ]
      refine r_nil ?_
      intro w8 hw8
      go_wp2
      go_ret
      exact ⟨ret_b (by rw [HF.out, e1, h2]; rfl), HG.out.trans hw8⟩
    · by_cases h3 : X1 * X2 < Y1 * Y2
      · have e3 : decide (X1 * X2 < Y1 * Y2) = true := decide_eq_true h3
        by_cases h4 : Y1 / X1 ≤ X2
        · have e4 : decide (Y1 / X1 ≤ X2) = true := decide_eq_true h4
          go_enter Tryd.func28, Tryd.ntmps28
          go_upto_region 1 with (fail)
          rw [← HV.out]
          clear HV
          refine region_R (by kernel_rfl) (by kernel_rfl) ?_
          refine r_val (v := ?qv19) (by kernel_rfl) (fun W hW => ?qh19) ?qr19
          case qh19 =>
            go_light
            go_simp
            rfl
          simp only [Act.put, List.setIfInBounds_toArray, List.set_cons_zero, List.set_cons_succ]
          refine r_val (v := ?qv20) (by kernel_rfl) (fun W hW => ?qh20) ?qr20
          case qh20 =>
            have g := (Below.cell hW (p := ⟨w.heap.size + 1, 0, none⟩) hzy).trans cy0
            go_light
            go_simp
            rfl
          simp only [Act.put, List.setIfInBounds_toArray, List.set_cons_zero, List.set_cons_succ]
          refine r_val (v := ?qv21) (by kernel_rfl) (fun W hW => ?qh21) ?qr21
          case qh21 =>
            go_light
            go_simp
            rfl
          simp only [Act.put, List.setIfInBounds_toArray, List.set_cons_zero, List.set_cons_succ]
          refine r_val (v := ?qv22) (by kernel_rfl) (fun W hW => ?qh22) ?qr22
          case qh22 =>
            have g := (Below.cell hW (p := ⟨w.heap.size, 0, none⟩) hzx).trans cx0
            go_light
            go_simp
            rfl
          simp only [Act.put, List.setIfInBounds_toArray, List.set_cons_zero, List.set_cons_succ]
          refine r_val (v := ?qv23) (by kernel_rfl) (fun W hW => ?qh23) ?qr23
          case qh23 =>
            go_light
            go_simp
            rfl
          simp only [Act.put, List.setIfInBounds_toArray, List.set_cons_zero, List.set_cons_succ]
          refine r_val (v := ?qv24) (by kernel_rfl) (fun W hW => ?qh24) ?qr24
          case qh24 =>
            go_light
            go_simp
            rfl
          simp only [Act.put, List.setIfInBounds_toArray, List.set_cons_zero, List.set_cons_succ]
          refine r_val (v := ?qv25) (by kernel_rfl) (fun W hW => ?qh25) ?qr25
          case qh25 =>
            go_light
            go_simp
            rfl
          simp only [Act.put, List.setIfInBounds_toArray, List.set_cons_zero, List.set_cons_succ]
          refine r_val (v := ?qv26) (by kernel_rfl) (fun W hW => ?qh26) ?qr26
          case qh26 =>
            have g := (Below.cell hW (p := ⟨w.heap.size + 1, 0, none⟩) hzy).trans cy0
            go_light
            go_simp
            rfl
          simp only [Act.put, List.setIfInBounds_toArray, List.set_cons_zero, List.set_cons_succ]
          refine r_val (v := ?qv27) (by kernel_rfl) (fun W hW => ?qh27) ?qr27
          case qh27 =>
            go_light
            go_simp
            rfl
          simp only [Act.put, List.setIfInBounds_toArray, List.set_cons_zero, List.set_cons_succ]
          refine r_val (v := ?qv28) (by kernel_rfl) (fun W hW => ?qh28) ?qr28
          case qh28 =>
            have g := (Below.cell hW (p := ⟨w.heap.size, 0, none⟩) hzx).trans cx0
            go_light
            go_simp
            rfl
          simp only [Act.put, List.setIfInBounds_toArray, List.set_cons_zero, List.set_cons_succ]
          refine r_val (v := ?qv29) (by kernel_rfl) (fun W hW => ?qh29) ?qr29
          case qh29 =>
            go_light
            go_simp
            rfl
          simp only [Act.put, List.setIfInBounds_toArray, List.set_cons_zero, List.set_cons_succ]
          refine r_val (v := ?qv30) (by kernel_rfl) (fun W hW => ?qh30) ?qr30
          case qh30 =>
            go_light
            go_simp
            rfl
          simp only [Act.put, List.setIfInBounds_toArray, List.set_cons_zero, List.set_cons_succ]
          refine r_val (v := ?qv31) (by kernel_rfl) (fun W hW => ?qh31) ?qr31
          case qh31 =>
            go_light
            go_simp
            rfl
          simp only [Act.put, List.setIfInBounds_toArray, List.set_cons_zero, List.set_cons_succ]
          refine r_val (v := ?qv32) (by kernel_rfl) (fun W hW => ?qh32) ?qr32
          case qh32 =>
            go_light
            go_simp
            rfl
          simp only [Act.put, List.setIfInBounds_toArray, List.set_cons_zero, List.set_cons_succ]
          refine r_val (v := ?qv33) (by kernel_rfl) (fun W hW => ?qh33) ?qr33
          case qh33 =>
            go_light
            go_simp
            rfl
          simp only [Act.put, List.setIfInBounds_toArray, List.set_cons_zero, List.set_cons_succ]
          refine r_val (v := ?qv34) (by kernel_rfl) (fun W hW => ?qh34) ?qr34
          case qh34 =>
            have g := (Below.cell hW (p := ⟨w.heap.size + 1, 0, none⟩) hzy).trans cy0
            go_light
            go_simp
            rfl
          simp only [Act.put, List.setIfInBounds_toArray, List.set_cons_zero, List.set_cons_succ]
          refine r_val (v := ?qv35) (by kernel_rfl) (fun W hW => ?qh35) ?qr35
          case qh35 =>
            go_light
            go_simp
            rfl
          simp only [Act.put, List.setIfInBounds_toArray, List.set_cons_zero, List.set_cons_succ]
          refine r_val (v := ?qv36) (by kernel_rfl) (fun W hW => ?qh36) ?qr36
          case qh36 =>
            have g := (Below.cell hW (p := ⟨w.heap.size + 1, 1, none⟩) hzy).trans cy1
            go_light
            go_simp
            rfl
          simp only [Act.put, List.setIfInBounds_toArray, List.set_cons_zero, List.set_cons_succ]
          refine r_val (v := ?qv37) (by kernel_rfl) (fun W hW => ?qh37) ?qr37
          case qh37 =>
            go_light
            go_simp
            rfl
          simp only [Act.put, List.setIfInBounds_toArray, List.set_cons_zero, List.set_cons_succ]
          refine r_val (v := ?qv38) (by kernel_rfl) (fun W hW => ?qh38) ?qr38
          case qh38 =>
            go_light
            go_simp
            rfl
          simp only [Act.put, List.setIfInBounds_toArray, List.set_cons_zero, List.set_cons_succ]
          refine r_val (v := ?qv39) (by kernel_rfl) (fun W hW => ?qh39) ?qr39
          case qh39 =>
            have g := (Below.cell hW (p := ⟨w.heap.size, 0, none⟩) hzx).trans cx0
            go_light
            go_simp
            rfl
          simp only [Act.put, List.setIfInBounds_toArray, List.set_cons_zero, List.set_cons_succ]
          refine r_val (v := ?qv40) (by kernel_rfl) (fun W hW => ?qh40) ?qr40
          case qh40 =>
            go_light
            go_simp
            rfl
          simp only [Act.put, List.setIfInBounds_toArray, List.set_cons_zero, List.set_cons_succ]
          refine r_val (v := ?qv41) (by kernel_rfl) (fun W hW => ?qh41) ?qr41
          case qh41 =>
            have g := (Below.cell hW (p := ⟨w.heap.size, 1, none⟩) hzx).trans cx1
            go_light
            go_simp
            rfl
          simp only [Act.put, List.setIfInBounds_toArray, List.set_cons_zero, List.set_cons_succ]
          refine r_val (v := ?qv42) (by kernel_rfl) (fun W hW => ?qh42) ?qr42
          case qh42 =>
            go_light
            go_simp
            rfl
          simp only [Act.put, List.setIfInBounds_toArray, List.set_cons_zero, List.set_cons_succ]
          refine r_val (v := ?qv43) (by kernel_rfl) (fun W hW => ?qh43) ?qr43
          case qh43 =>
            go_light
            go_simp
            rfl
          simp only [Act.put, List.setIfInBounds_toArray, List.set_cons_zero, List.set_cons_succ]
          refine r_val (v := ?qv44) (by kernel_rfl) (fun W hW => ?qh44) ?qr44
          case qh44 =>
            go_light
            go_simp
            rfl
          simp only [Act.put, List.setIfInBounds_toArray, List.set_cons_zero, List.set_cons_succ]
          refine r_val (v := ?qv45) (by kernel_rfl) (fun W hW => ?qh45) ?qr45
          case qh45 =>
            go_light
            go_simp
            rfl
          simp only [Act.put, List.setIfInBounds_toArray, List.set_cons_zero, List.set_cons_succ]
          refine r_val (v := ?qv46) (by kernel_rfl) (fun W hW => ?qh46) ?qr46
          case qh46 =>
            go_light
            go_simp
            rfl
          simp only [Act.put, List.setIfInBounds_toArray, List.set_cons_zero, List.set_cons_succ]
          refine r_val (v := ?qv47) (by kernel_rfl) (fun W hW => ?qh47) ?qr47
          case qh47 =>
            have g := (Below.cell hW (p := ⟨w.heap.size, 1, none⟩) hzx).trans cx1
            go_light
            go_simp
            rfl
          simp only [Act.put, List.setIfInBounds_toArray, List.set_cons_zero, List.set_cons_succ]
          refine r_val (v := ?qv48) (by kernel_rfl) (fun W hW => ?qh48) ?qr48
          case qh48 =>
            go_light
            go_simp
            rfl
          simp only [Act.put, List.setIfInBounds_toArray, List.set_cons_zero, List.set_cons_succ]
          refine r_val (v := ?qv49) (by kernel_rfl) (fun W hW => ?qh49) ?qr49
          case qh49 =>
            have g := (Below.cell hW (p := ⟨w.heap.size + 1, 0, none⟩) hzy).trans cy0
            go_light
            go_simp
            rfl
          simp only [Act.put, List.setIfInBounds_toArray, List.set_cons_zero, List.set_cons_succ]
          refine r_val (v := ?qv50) (by kernel_rfl) (fun W hW => ?qh50) ?qr50
          case qh50 =>
            go_light
            go_simp
            rfl
          simp only [Act.put, List.setIfInBounds_toArray, List.set_cons_zero, List.set_cons_succ]
          refine r_val (v := ?qv51) (by kernel_rfl) (fun W hW => ?qh51) ?qr51
          case qh51 =>
            have g := (Below.cell hW (p := ⟨w.heap.size, 0, none⟩) hzx).trans cx0
            go_light
            go_simp
            rfl
          simp only [Act.put, List.setIfInBounds_toArray, List.set_cons_zero, List.set_cons_succ]
          refine r_val (v := ?qv52) (by kernel_rfl) (fun W hW => ?qh52) ?qr52
          case qh52 =>
            go_light
            go_simp
            rfl
          simp only [Act.put, List.setIfInBounds_toArray, List.set_cons_zero, List.set_cons_succ]
          refine r_val (v := ?qv53) (by kernel_rfl) (fun W hW => ?qh53) ?qr53
          case qh53 =>
            go_light
            go_simp
            rfl
          simp only [Act.put, List.setIfInBounds_toArray, List.set_cons_zero, List.set_cons_succ]
          refine r_val (v := ?qv54) (by kernel_rfl) (fun W hW => ?qh54) ?qr54
          case qh54 =>
            go_light
            go_simp
            rfl
          simp only [Act.put, List.setIfInBounds_toArray, List.set_cons_zero, List.set_cons_succ]
          refine r_val (v := ?qv55) (by kernel_rfl) (fun W hW => ?qh55) ?qr55
          case qh55 =>
            go_light
            go_simp
            rfl
          simp only [Act.put, List.setIfInBounds_toArray, List.set_cons_zero, List.set_cons_succ]
          refine r_nil ?_
          intro w8 hw8
          go_wp2
          go_ret
          exact ⟨ret_b (by rw [HF.out, e1, h2, e3, e4]; rfl), HG.out.trans hw8⟩
        · have e4 : decide (Y1 / X1 ≤ X2) = false := decide_eq_false h4
          go_enter Tryd.func28, Tryd.ntmps28
          go_upto_region 1 with (fail)
          rw [← HV.out]
          clear HV
          refine region_R (by kernel_rfl) (by kernel_rfl) ?_
          refine r_val (v := ?qv56) (by kernel_rfl) (fun W hW => ?qh56) ?qr56
          case qh56 =>
            go_light
            go_simp
            rfl
          simp only [Act.put, List.setIfInBounds_toArray, List.set_cons_zero, List.set_cons_succ]
          refine r_val (v := ?qv57) (by kernel_rfl) (fun W hW => ?qh57) ?qr57
          case qh57 =>
            have g := (Below.cell hW (p := ⟨w.heap.size + 1, 0, none⟩) hzy).trans cy0
            go_light
            go_simp
            rfl
          simp only [Act.put, List.setIfInBounds_toArray, List.set_cons_zero, List.set_cons_succ]
          refine r_val (v := ?qv58) (by kernel_rfl) (fun W hW => ?qh58) ?qr58
          case qh58 =>
            go_light
            go_simp
            rfl
          simp only [Act.put, List.setIfInBounds_toArray, List.set_cons_zero, List.set_cons_succ]
          refine r_val (v := ?qv59) (by kernel_rfl) (fun W hW => ?qh59) ?qr59
          case qh59 =>
            have g := (Below.cell hW (p := ⟨w.heap.size, 0, none⟩) hzx).trans cx0
            go_light
            go_simp
            rfl
          simp only [Act.put, List.setIfInBounds_toArray, List.set_cons_zero, List.set_cons_succ]
          refine r_val (v := ?qv60) (by kernel_rfl) (fun W hW => ?qh60) ?qr60
          case qh60 =>
            go_light
            go_simp
            rfl
          simp only [Act.put, List.setIfInBounds_toArray, List.set_cons_zero, List.set_cons_succ]
          refine r_val (v := ?qv61) (by kernel_rfl) (fun W hW => ?qh61) ?qr61
          case qh61 =>
            go_light
            go_simp
            rfl
          simp only [Act.put, List.setIfInBounds_toArray, List.set_cons_zero, List.set_cons_succ]
          refine r_val (v := ?qv62) (by kernel_rfl) (fun W hW => ?qh62) ?qr62
          case qh62 =>
            go_light
            go_simp
            rfl
          simp only [Act.put, List.setIfInBounds_toArray, List.set_cons_zero, List.set_cons_succ]
          refine r_val (v := ?qv63) (by kernel_rfl) (fun W hW => ?qh63) ?qr63
          case qh63 =>
            have g := (Below.cell hW (p := ⟨w.heap.size + 1, 0, none⟩) hzy).trans cy0
            go_light
            go_simp
            rfl
          simp only [Act.put, List.setIfInBounds_toArray, List.set_cons_zero, List.set_cons_succ]
          refine r_val (v := ?qv64) (by kernel_rfl) (fun W hW => ?qh64) ?qr64
          case qh64 =>
            go_light
            go_simp
            rfl
          simp only [Act.put, List.setIfInBounds_toArray, List.set_cons_zero, List.set_cons_succ]
          refine r_val (v := ?qv65) (by kernel_rfl) (fun W hW => ?qh65) ?qr65
          case qh65 =>
            have g := (Below.cell hW (p := ⟨w.heap.size, 0, none⟩) hzx).trans cx0
            go_light
            go_simp
            rfl
          simp only [Act.put, List.setIfInBounds_toArray, List.set_cons_zero, List.set_cons_succ]
          refine r_val (v := ?qv66) (by kernel_rfl) (fun W hW => ?qh66) ?qr66
          case qh66 =>
            go_light
            go_simp
            rfl
          simp only [Act.put, List.setIfInBounds_toArray, List.set_cons_zero, List.set_cons_succ]
          refine r_val (v := ?qv67) (by kernel_rfl) (fun W hW => ?qh67) ?qr67
          case qh67 =>
            go_light
            go_simp
            rfl
          simp only [Act.put, List.setIfInBounds_toArray, List.set_cons_zero, List.set_cons_succ]
          refine r_val (v := ?qv68) (by kernel_rfl) (fun W hW => ?qh68) ?qr68
          case qh68 =>
            go_light
            go_simp
            rfl
          simp only [Act.put, List.setIfInBounds_toArray, List.set_cons_zero, List.set_cons_succ]
          refine r_val (v := ?qv69) (by kernel_rfl) (fun W hW => ?qh69) ?qr69
          case qh69 =>
            go_light
            go_simp
            rfl
          simp only [Act.put, List.setIfInBounds_toArray, List.set_cons_zero, List.set_cons_succ]
          refine r_val (v := ?qv70) (by kernel_rfl) (fun W hW => ?qh70) ?qr70
          case qh70 =>
            go_light
            go_simp
            rfl
          simp only [Act.put, List.setIfInBounds_toArray, List.set_cons_zero, List.set_cons_succ]
          refine r_val (v := ?qv71) (by kernel_rfl) (fun W hW => ?qh71) ?qr71
          case qh71 =>
            have g := (Below.cell hW (p := ⟨w.heap.size + 1, 0, none⟩) hzy).trans cy0
            go_light
            go_simp
            rfl
          simp only [Act.put, List.setIfInBounds_toArray, List.set_cons_zero, List.set_cons_succ]
          refine r_val (v := ?qv72) (by kernel_rfl) (fun W hW => ?qh72) ?qr72
          case qh72 =>
            go_light
            go_simp
            rfl
          simp only [Act.put, List.setIfInBounds_toArray, List.set_cons_zero, List.set_cons_succ]
          refine r_val (v := ?qv73) (by kernel_rfl) (fun W hW => ?qh73) ?qr73
          case qh73 =>
            have g := (Below.cell hW (p := ⟨w.heap.size + 1, 1, none⟩) hzy).trans cy1
            go_light
            go_simp
            rfl
          simp only [Act.put, List.setIfInBounds_toArray, List.set_cons_zero, List.set_cons_succ]
          refine r_val (v := ?qv74) (by kernel_rfl) (fun W hW => ?qh74) ?qr74
          case qh74 =>
            go_light
            go_simp
            rfl
          simp only [Act.put, List.setIfInBounds_toArray, List.set_cons_zero, List.set_cons_succ]
          refine r_val (v := ?qv75) (by kernel_rfl) (fun W hW => ?qh75) ?qr75
          case qh75 =>
            go_light
            go_simp
            rfl
          simp only [Act.put, List.setIfInBounds_toArray, List.set_cons_zero, List.set_cons_succ]
          refine r_val (v := ?qv76) (by kernel_rfl) (fun W hW => ?qh76) ?qr76
          case qh76 =>
            have g := (Below.cell hW (p := ⟨w.heap.size, 0, none⟩) hzx).trans cx0
            go_light
            go_simp
            rfl
          simp only [Act.put, List.setIfInBounds_toArray, List.set_cons_zero, List.set_cons_succ]
          refine r_val (v := ?qv77) (by kernel_rfl) (fun W hW => ?qh77) ?qr77
          case qh77 =>
            go_light
            go_simp
            rfl
          simp only [Act.put, List.setIfInBounds_toArray, List.set_cons_zero, List.set_cons_succ]
          refine r_val (v := ?qv78) (by kernel_rfl) (fun W hW => ?qh78) ?qr78
          case qh78 =>
            have g := (Below.cell hW (p := ⟨w.heap.size, 1, none⟩) hzx).trans cx1
            go_light
            go_simp
            rfl
          simp only [Act.put, List.setIfInBounds_toArray, List.set_cons_zero, List.set_cons_succ]
          refine r_val (v := ?qv79) (by kernel_rfl) (fun W hW => ?qh79) ?qr79
          case qh79 =>
            go_light
            go_simp
            rfl
          simp only [Act.put, List.setIfInBounds_toArray, List.set_cons_zero, List.set_cons_succ]
          refine r_val (v := ?qv80) (by kernel_rfl) (fun W hW => ?qh80) ?qr80
          case qh80 =>
            go_light
            go_simp
            rfl
          simp only [Act.put, List.setIfInBounds_toArray, List.set_cons_zero, List.set_cons_succ]
          refine r_val (v := ?qv81) (by kernel_rfl) (fun W hW => ?qh81) ?qr81
          case qh81 =>
            go_light
            go_simp
            rfl
          simp only [Act.put, List.setIfInBounds_toArray, List.set_cons_zero, List.set_cons_succ]
          refine r_val (v := ?qv82) (by kernel_rfl) (fun W hW => ?qh82) ?qr82
          case qh82 =>
            go_light
            go_simp
            rfl
          simp only [Act.put, List.setIfInBounds_toArray, List.set_cons_zero, List.set_cons_succ]
          refine r_val (v := ?qv83) (by kernel_rfl) (fun W hW => ?qh83) ?qr83
          case qh83 =>
            go_light
            go_simp
            rfl
          simp only [Act.put, List.setIfInBounds_toArray, List.set_cons_zero, List.set_cons_succ]
          refine r_val (v := ?qv84) (by kernel_rfl) (fun W hW => ?qh84) ?qr84
          case qh84 =>
            have g := (Below.cell hW (p := ⟨w.heap.size, 1, none⟩) hzx).trans cx1
            go_light
            go_simp
            rfl
          simp only [Act.put, List.setIfInBounds_toArray, List.set_cons_zero, List.set_cons_succ]
          refine r_val (v := ?qv85) (by kernel_rfl) (fun W hW => ?qh85) ?qr85
          case qh85 =>
            go_light
            go_simp
            rfl
          simp only [Act.put, List.setIfInBounds_toArray, List.set_cons_zero, List.set_cons_succ]
          refine r_val (v := ?qv86) (by kernel_rfl) (fun W hW => ?qh86) ?qr86
          case qh86 =>
            have g := (Below.cell hW (p := ⟨w.heap.size + 1, 0, none⟩) hzy).trans cy0
            go_light
            go_simp
            rfl
          simp only [Act.put, List.setIfInBounds_toArray, List.set_cons_zero, List.set_cons_succ]
          refine r_val (v := ?qv87) (by kernel_rfl) (fun W hW => ?qh87) ?qr87
          case qh87 =>
            go_light
            go_simp
            rfl
          simp only [Act.put, List.setIfInBounds_toArray, List.set_cons_zero, List.set_cons_succ]
          refine r_val (v := ?qv88) (by kernel_rfl) (fun W hW => ?qh88) ?qr88
          case qh88 =>
            have g := (Below.cell hW (p := ⟨w.heap.size, 0, none⟩) hzx).trans cx0
            go_light
            go_simp
            rfl
          simp only [Act.put, List.setIfInBounds_toArray, List.set_cons_zero, List.set_cons_succ]
          refine r_val (v := ?qv89) (by kernel_rfl) (fun W hW => ?qh89) ?qr89
          case qh89 =>
            go_light
            go_simp
            rfl
          simp only [Act.put, List.setIfInBounds_toArray, List.set_cons_zero, List.set_cons_succ]
          refine r_val (v := ?qv90) (by kernel_rfl) (fun W hW => ?qh90) ?qr90
          case qh90 =>
            go_light
            go_simp
            rfl
          simp only [Act.put, List.setIfInBounds_toArray, List.set_cons_zero, List.set_cons_succ]
          refine r_val (v := ?qv91) (by kernel_rfl) (fun W hW => ?qh91) ?qr91
          case qh91 =>
            go_light
            go_simp
            rfl
          simp only [Act.put, List.setIfInBounds_toArray, List.set_cons_zero, List.set_cons_succ]
          refine r_val (v := ?qv92) (by kernel_rfl) (fun W hW => ?qh92) ?qr92
          case qh92 =>
            go_light
            go_simp
            rfl
          simp only [Act.put, List.setIfInBounds_toArray, List.set_cons_zero, List.set_cons_succ]
          refine r_nil ?_
          intro w8 hw8
          go_wp2
          go_ret
          exact ⟨ret_b (by rw [HF.out, e1, h2, e3, e4]; rfl), HG.out.trans hw8⟩
      · have e3 : decide (X1 * X2 < Y1 * Y2) = false := decide_eq_false h3
        clear q1 q3
        go_enter Tryd.func28, Tryd.ntmps28
        go_upto_region 1 with (fail)
        rw [← HV.out]
        clear HV
        refine region_R (by kernel_rfl) (by kernel_rfl) ?_
        refine r_val (v := ?qv93) (by kernel_rfl) (fun W hW => ?qh93) ?qr93
        case qh93 =>
          go_light
          go_simp
          rfl
        simp only [Act.put, List.setIfInBounds_toArray, List.set_cons_zero, List.set_cons_succ]
        refine r_val (v := ?qv94) (by kernel_rfl) (fun W hW => ?qh94) ?qr94
        case qh94 =>
          have g := (Below.cell hW (p := ⟨w.heap.size + 1, 0, none⟩) hzy).trans cy0
          go_light
          go_simp
          rfl
        simp only [Act.put, List.setIfInBounds_toArray, List.set_cons_zero, List.set_cons_succ]
        refine r_val (v := ?qv95) (by kernel_rfl) (fun W hW => ?qh95) ?qr95
        case qh95 =>
          go_light
          go_simp
          rfl
        simp only [Act.put, List.setIfInBounds_toArray, List.set_cons_zero, List.set_cons_succ]
        refine r_val (v := ?qv96) (by kernel_rfl) (fun W hW => ?qh96) ?qr96
        case qh96 =>
          have g := (Below.cell hW (p := ⟨w.heap.size, 0, none⟩) hzx).trans cx0
          go_light
          go_simp
          rfl
        simp only [Act.put, List.setIfInBounds_toArray, List.set_cons_zero, List.set_cons_succ]
        refine r_val (v := ?qv97) (by kernel_rfl) (fun W hW => ?qh97) ?qr97
        case qh97 =>
          go_light
          go_simp
          rfl
        simp only [Act.put, List.setIfInBounds_toArray, List.set_cons_zero, List.set_cons_succ]
        refine r_val (v := ?qv98) (by kernel_rfl) (fun W hW => ?qh98) ?qr98
        case qh98 =>
          go_light
          go_simp
          rfl
        simp only [Act.put, List.setIfInBounds_toArray, List.set_cons_zero, List.set_cons_succ]
        refine r_val (v := ?qv99) (by kernel_rfl) (fun W hW => ?qh99) ?qr99
        case qh99 =>
          go_light
          go_simp
          rfl
        simp only [Act.put, List.setIfInBounds_toArray, List.set_cons_zero, List.set_cons_succ]
        refine r_val (v := ?qv100) (by kernel_rfl) (fun W hW => ?qh100) ?qr100
        case qh100 =>
          have g := (Below.cell hW (p := ⟨w.heap.size + 1, 0, none⟩) hzy).trans cy0
          go_light
          go_simp
          rfl
        simp only [Act.put, List.setIfInBounds_toArray, List.set_cons_zero, List.set_cons_succ]
        refine r_val (v := ?qv101) (by kernel_rfl) (fun W hW => ?qh101) ?qr101
        case qh101 =>
          go_light
          go_simp
          rfl
        simp only [Act.put, List.setIfInBounds_toArray, List.set_cons_zero, List.set_cons_succ]
        refine r_val (v := ?qv102) (by kernel_rfl) (fun W hW => ?qh102) ?qr102
        case qh102 =>
          have g := (Below.cell hW (p := ⟨w.heap.size, 0, none⟩) hzx).trans cx0
          go_light
          go_simp
          rfl
        simp only [Act.put, List.setIfInBounds_toArray, List.set_cons_zero, List.set_cons_succ]
        refine r_val (v := ?qv103) (by kernel_rfl) (fun W hW => ?qh103) ?qr103
        case qh103 =>
          go_light
          go_simp
          rfl
        simp only [Act.put, List.setIfInBounds_toArray, List.set_cons_zero, List.set_cons_succ]
        refine r_val (v := ?qv104) (by kernel_rfl) (fun W hW => ?qh104) ?qr104
        case qh104 =>
          go_light
          go_simp
          rfl
        simp only [Act.put, List.setIfInBounds_toArray, List.set_cons_zero, List.set_cons_succ]
        refine r_val (v := ?qv105) (by kernel_rfl) (fun W hW => ?qh105) ?qr105
        case qh105 =>
          go_light
          go_simp
          rfl
        simp only [Act.put, List.setIfInBounds_toArray, List.set_cons_zero, List.set_cons_succ]
        refine r_val (v := ?qv106) (by kernel_rfl) (fun W hW => ?qh106) ?qr106
        case qh106 =>
          go_light
          go_simp
          rfl
        simp only [Act.put, List.setIfInBounds_toArray, List.set_cons_zero, List.set_cons_succ]
        refine r_val (v := ?qv107) (by kernel_rfl) (fun W hW => ?qh107) ?qr107
        case qh107 =>
          go_light
          go_simp
          rfl
        simp only [Act.put, List.setIfInBounds_toArray, List.set_cons_zero, List.set_cons_succ]
        refine r_val (v := ?qv108) (by kernel_rfl) (fun W hW => ?qh108) ?qr108
        case qh108 =>
          have g := (Below.cell hW (p := ⟨w.heap.size + 1, 0, none⟩) hzy).trans cy0
          go_light
          go_simp
          rfl
        simp only [Act.put, List.setIfInBounds_toArray, List.set_cons_zero, List.set_cons_succ]
        refine r_val (v := ?qv109) (by kernel_rfl) (fun W hW => ?qh109) ?qr109
        case qh109 =>
          go_light
          go_simp
          rfl
        simp only [Act.put, List.setIfInBounds_toArray, List.set_cons_zero, List.set_cons_succ]
        refine r_val (v := ?qv110) (by kernel_rfl) (fun W hW => ?qh110) ?qr110
        case qh110 =>
          have g := (Below.cell hW (p := ⟨w.heap.size + 1, 1, none⟩) hzy).trans cy1
          go_light
          go_simp
          rfl
        simp only [Act.put, List.setIfInBounds_toArray, List.set_cons_zero, List.set_cons_succ]
        refine r_val (v := ?qv111) (by kernel_rfl) (fun W hW => ?qh111) ?qr111
        case qh111 =>
          go_light
          go_simp
          rfl
        simp only [Act.put, List.setIfInBounds_toArray, List.set_cons_zero, List.set_cons_succ]
        refine r_val (v := ?qv112) (by kernel_rfl) (fun W hW => ?qh112) ?qr112
        case qh112 =>
          go_light
          go_simp
          rfl
        simp only [Act.put, List.setIfInBounds_toArray, List.set_cons_zero, List.set_cons_succ]
        refine r_val (v := ?qv113) (by kernel_rfl) (fun W hW => ?qh113) ?qr113
        case qh113 =>
          have g := (Below.cell hW (p := ⟨w.heap.size, 0, none⟩) hzx).trans cx0
          go_light
          go_simp
          rfl
        simp only [Act.put, List.setIfInBounds_toArray, List.set_cons_zero, List.set_cons_succ]
        refine r_val (v := ?qv114) (by kernel_rfl) (fun W hW => ?qh114) ?qr114
        case qh114 =>
          go_light
          go_simp
          rfl
        simp only [Act.put, List.setIfInBounds_toArray, List.set_cons_zero, List.set_cons_succ]
        refine r_val (v := ?qv115) (by kernel_rfl) (fun W hW => ?qh115) ?qr115
        case qh115 =>
          have g := (Below.cell hW (p := ⟨w.heap.size, 1, none⟩) hzx).trans cx1
          go_light
          go_simp
          rfl
        simp only [Act.put, List.setIfInBounds_toArray, List.set_cons_zero, List.set_cons_succ]
        refine r_val (v := ?qv116) (by kernel_rfl) (fun W hW => ?qh116) ?qr116
        case qh116 =>
          go_light
          go_simp
          rfl
        simp only [Act.put, List.setIfInBounds_toArray, List.set_cons_zero, List.set_cons_succ]
        refine r_val (v := ?qv117) (by kernel_rfl) (fun W hW => ?qh117) ?qr117
        case qh117 =>
          go_light
          go_simp
          rfl
        simp only [Act.put, List.setIfInBounds_toArray, List.set_cons_zero, List.set_cons_succ]
        refine r_val (v := ?qv118) (by kernel_rfl) (fun W hW => ?qh118) ?qr118
        case qh118 =>
          go_light
          go_simp
          rfl
        simp only [Act.put, List.setIfInBounds_toArray, List.set_cons_zero, List.set_cons_succ]
        refine r_val (v := ?qv119) (by kernel_rfl) (fun W hW => ?qh119) ?qr119
        case qh119 =>
          go_light
          go_simp
          rfl
        simp only [Act.put, List.setIfInBounds_toArray, List.set_cons_zero, List.set_cons_succ]
        refine r_skip (by kernel_rfl) ?_
        simp only [Act.put, List.setIfInBounds_toArray, List.set_cons_zero, List.set_cons_succ]
        refine r_skip (by kernel_rfl) ?_
        simp only [Act.put, List.setIfInBounds_toArray, List.set_cons_zero, List.set_cons_succ]
        refine r_skip (by kernel_rfl) ?_
        simp only [Act.put, List.setIfInBounds_toArray, List.set_cons_zero, List.set_cons_succ]
        refine r_skip (by kernel_rfl) ?_
        simp only [Act.put, List.setIfInBounds_toArray, List.set_cons_zero, List.set_cons_succ]
        refine r_skip (by kernel_rfl) ?_
        simp only [Act.put, List.setIfInBounds_toArray, List.set_cons_zero, List.set_cons_succ]
        refine r_skip (by kernel_rfl) ?_
        simp only [Act.put, List.setIfInBounds_toArray, List.set_cons_zero, List.set_cons_succ]
        refine r_skip (by kernel_rfl) ?_
        simp only [Act.put, List.setIfInBounds_toArray, List.set_cons_zero, List.set_cons_succ]
        refine r_skip (by kernel_rfl) ?_
        simp only [Act.put, List.setIfInBounds_toArray, List.set_cons_zero, List.set_cons_succ]
        refine r_val (v := ?qv120) (by kernel_rfl) (fun W hW => ?qh120) ?qr120
        case qh120 =>
          go_light
          go_simp
          rfl
        simp only [Act.put, List.setIfInBounds_toArray, List.set_cons_zero, List.set_cons_succ]
        refine r_val (v := ?qv121) (by kernel_rfl) (fun W hW => ?qh121) ?qr121
        case qh121 =>
          go_light
          go_simp
          rfl
        simp only [Act.put, List.setIfInBounds_toArray, List.set_cons_zero, List.set_cons_succ]
        refine r_nil ?_
        intro w8 hw8
        go_wp2
        go_ret
        exact ⟨ret_b (by rw [HF.out, e1, h2, e3]; rfl), HG.out.trans hw8⟩
  · have e1 : decide (X1 < Y1) = false := decide_eq_false h1
    clear q1 q2 q3 hm1 hm2
    go_enter Tryd.func28, Tryd.ntmps28
    go_upto_region 1 with (fail)
    rw [← HV.out]
    clear HV
    refine region_R (by kernel_rfl) (by kernel_rfl) ?_
    refine r_val (v := ?qv122) (by kernel_rfl) (fun W hW => ?qh122) ?qr122
    case qh122 =>
      go_light
      go_simp
      rfl
    simp only [Act.put, List.setIfInBounds_toArray, List.set_cons_zero, List.set_cons_succ]
    refine r_val (v := ?qv123) (by kernel_rfl) (fun W hW => ?qh123) ?qr123
    case qh123 =>
      have g := (Below.cell hW (p := ⟨w.heap.size + 1, 0, none⟩) hzy).trans cy0
      go_light
      go_simp
      rfl
    simp only [Act.put, List.setIfInBounds_toArray, List.set_cons_zero, List.set_cons_succ]
    refine r_val (v := ?qv124) (by kernel_rfl) (fun W hW => ?qh124) ?qr124
    case qh124 =>
      go_light
      go_simp
      rfl
    simp only [Act.put, List.setIfInBounds_toArray, List.set_cons_zero, List.set_cons_succ]
    refine r_val (v := ?qv125) (by kernel_rfl) (fun W hW => ?qh125) ?qr125
    case qh125 =>
      have g := (Below.cell hW (p := ⟨w.heap.size, 0, none⟩) hzx).trans cx0
      go_light
      go_simp
      rfl
    simp only [Act.put, List.setIfInBounds_toArray, List.set_cons_zero, List.set_cons_succ]
    refine r_val (v := ?qv126) (by kernel_rfl) (fun W hW => ?qh126) ?qr126
    case qh126 =>
      go_light
      go_simp
      rfl
    simp only [Act.put, List.setIfInBounds_toArray, List.set_cons_zero, List.set_cons_succ]
    refine r_val (v := ?qv127) (by kernel_rfl) (fun W hW => ?qh127) ?qr127
    case qh127 =>
      go_light
      go_simp
      rfl
    simp only [Act.put, List.setIfInBounds_toArray, List.set_cons_zero, List.set_cons_succ]
    refine r_skip (by kernel_rfl) ?_
    simp only [Act.put, List.setIfInBounds_toArray, List.set_cons_zero, List.set_cons_succ]
    refine r_skip (by kernel_rfl) ?_
    simp only [Act.put, List.setIfInBounds_toArray, List.set_cons_zero, List.set_cons_succ]
    refine r_skip (by kernel_rfl) ?_
    simp only [Act.put, List.setIfInBounds_toArray, List.set_cons_zero, List.set_cons_succ]
    refine r_skip (by kernel_rfl) ?_
    simp only [Act.put, List.setIfInBounds_toArray, List.set_cons_zero, List.set_cons_succ]
    refine r_skip (by kernel_rfl) ?_
    simp only [Act.put, List.setIfInBounds_toArray, List.set_cons_zero, List.set_cons_succ]
    refine r_skip (by kernel_rfl) ?_
    simp only [Act.put, List.setIfInBounds_toArray, List.set_cons_zero, List.set_cons_succ]
    refine r_val (v := ?qv128) (by kernel_rfl) (fun W hW => ?qh128) ?qr128
    case qh128 =>
      go_light
      go_simp
      rfl
    simp only [Act.put, List.setIfInBounds_toArray, List.set_cons_zero, List.set_cons_succ]
    refine r_val (v := ?qv129) (by kernel_rfl) (fun W hW => ?qh129) ?qr129
    case qh129 =>
      go_light
      go_simp
      rfl
    simp only [Act.put, List.setIfInBounds_toArray, List.set_cons_zero, List.set_cons_succ]
    refine r_skip (by kernel_rfl) ?_
    simp only [Act.put, List.setIfInBounds_toArray, List.set_cons_zero, List.set_cons_succ]
    refine r_skip (by kernel_rfl) ?_
    simp only [Act.put, List.setIfInBounds_toArray, List.set_cons_zero, List.set_cons_succ]
    refine r_skip (by kernel_rfl) ?_
    simp only [Act.put, List.setIfInBounds_toArray, List.set_cons_zero, List.set_cons_succ]
    refine r_skip (by kernel_rfl) ?_
    simp only [Act.put, List.setIfInBounds_toArray, List.set_cons_zero, List.set_cons_succ]
    refine r_skip (by kernel_rfl) ?_
    simp only [Act.put, List.setIfInBounds_toArray, List.set_cons_zero, List.set_cons_succ]
    refine r_skip (by kernel_rfl) ?_
    simp only [Act.put, List.setIfInBounds_toArray, List.set_cons_zero, List.set_cons_succ]
    refine r_skip (by kernel_rfl) ?_
    simp only [Act.put, List.setIfInBounds_toArray, List.set_cons_zero, List.set_cons_succ]
    refine r_skip (by kernel_rfl) ?_
    simp only [Act.put, List.setIfInBounds_toArray, List.set_cons_zero, List.set_cons_succ]
    refine r_skip (by kernel_rfl) ?_
    simp only [Act.put, List.setIfInBounds_toArray, List.set_cons_zero, List.set_cons_succ]
    refine r_skip (by kernel_rfl) ?_
    simp only [Act.put, List.setIfInBounds_toArray, List.set_cons_zero, List.set_cons_succ]
    refine r_skip (by kernel_rfl) ?_
    simp only [Act.put, List.setIfInBounds_toArray, List.set_cons_zero, List.set_cons_succ]
    refine r_val (v := ?qv130) (by kernel_rfl) (fun W hW => ?qh130) ?qr130
    case qh130 =>
      go_light
      go_simp
      rfl
    simp only [Act.put, List.setIfInBounds_toArray, List.set_cons_zero, List.set_cons_succ]
    refine r_val (v := ?qv131) (by kernel_rfl) (fun W hW => ?qh131) ?qr131
    case qh131 =>
      go_light
      go_simp
      rfl
    simp only [Act.put, List.setIfInBounds_toArray, List.set_cons_zero, List.set_cons_succ]
    refine r_skip (by kernel_rfl) ?_
    simp only [Act.put, List.setIfInBounds_toArray, List.set_cons_zero, List.set_cons_succ]
    refine r_skip (by kernel_rfl) ?_
    simp only [Act.put, List.setIfInBounds_toArray, List.set_cons_zero, List.set_cons_succ]
    refine r_skip (by kernel_rfl) ?_
    simp only [Act.put, List.setIfInBounds_toArray, List.set_cons_zero, List.set_cons_succ]
    refine r_skip (by kernel_rfl) ?_
    simp only [Act.put, List.setIfInBounds_toArray, List.set_cons_zero, List.set_cons_succ]
    refine r_skip (by kernel_rfl) ?_
    simp only [Act.put, List.setIfInBounds_toArray, List.set_cons_zero, List.set_cons_succ]
    refine r_skip (by kernel_rfl) ?_
    simp only [Act.put, List.setIfInBounds_toArray, List.set_cons_zero, List.set_cons_succ]
    refine r_skip (by kernel_rfl) ?_
    simp only [Act.put, List.setIfInBounds_toArray, List.set_cons_zero, List.set_cons_succ]
    refine r_skip (by kernel_rfl) ?_
    simp only [Act.put, List.setIfInBounds_toArray, List.set_cons_zero, List.set_cons_succ]
    refine r_val (v := ?qv132) (by kernel_rfl) (fun W hW => ?qh132) ?qr132
    case qh132 =>
      go_light
      go_simp
      rfl
    simp only [Act.put, List.setIfInBounds_toArray, List.set_cons_zero, List.set_cons_succ]
    refine r_val (v := ?qv133) (by kernel_rfl) (fun W hW => ?qh133) ?qr133
    case qh133 =>
      go_light
      go_simp
      rfl
    simp only [Act.put, List.setIfInBounds_toArray, List.set_cons_zero, List.set_cons_succ]
    refine r_nil ?_
    intro w8 hw8
    go_wp2
    go_ret
    exact ⟨ret_b (by rw [HF.out, e1]; rfl), HG.out.trans hw8⟩
set_option maxRecDepth 100000 in
set_option maxHeartbeats 6400000 in
theorem ref_side (x y : Nat × Nat) (hx : oneOk x = true) (hy : oneOk y = true) (w : World) : Calls Tryd.prog 32 #[.agg #[.int .i64 x.1, .int .i64 x.2], .agg #[.int .i64 y.1, .int .i64 y.2]] w fun e w' => e = .returned (.bool (fitsS x y)) ∧ Gr w w' := by
  obtain ⟨x1, x2⟩ := x
  obtain ⟨y1, y2⟩ := y
  obtain ⟨hx1, hx2, hx3, hx4⟩ := oneOk_iff.1 hx
  obtain ⟨hy1, hy2, hy3, hy4⟩ := oneOk_iff.1 hy
  simp only at hx1 hx2 hx3 hx4 hy1 hy2 hy3 hy4 ⊢
  obtain ⟨F, hF⟩ : ∃ F, F = fitsS (x1, x2) (y1, y2) := ⟨_, rfl⟩
  rw [← hF]
  have hFF := fits_int (x1 : Int) x2 y1 y2 (by omega) (by omega) (by omega) (by omega)
  have hm1 := prod_small (x1 : Int) x2 (by omega) (by omega) (by omega) (by omega)
  have hm2 := prod_small (y1 : Int) y2 (by omega) (by omega) (by omega) (by omega)
  have hfi : fitsS (x1, x2) (y1, y2) = (decide ((x1 : Int) < y1) && (((y1 : Int) % x1) == 0) && decide ((x1 : Int) * x2 < (y1 : Int) * y2) && decide ((y1 : Int) / x1 ≤ x2)) := fits_eq _ _ _ _
  rw [hfi] at hF
  have HF := Lib.hid hF
  obtain ⟨X1, hX1⟩ : ∃ X : Int, X = x1 := ⟨_, rfl⟩
  obtain ⟨X2, hX2⟩ : ∃ X : Int, X = x2 := ⟨_, rfl⟩
  obtain ⟨Y1, hY1⟩ : ∃ X : Int, X = y1 := ⟨_, rfl⟩
  obtain ⟨Y2, hY2⟩ : ∃ X : Int, X = y2 := ⟨_, rfl⟩
  have a1 : 1 ≤ X1 ∧ X1 ≤ 16777216 := by omega
  have a2 : 1 ≤ X2 ∧ X2 ≤ 16777216 := by omega
  have a3 : 1 ≤ Y1 ∧ Y1 ≤ 16777216 := by omega
  have a4 : 1 ≤ Y2 ∧ Y2 ≤ 16777216 := by omega
  simp only [← hX1, ← hX2, ← hY1, ← hY2] at HF hFF hm1 hm2 ⊢
  clear hX1 hX2 hY1 hY2 hF hfi hx hy hx1 hx2 hx3 hx4 hy1 hy2 hy3 hy4
  obtain ⟨V, hV⟩ : ∃ V, V = (w.alloc (.cells #[.int .i64 X1, .int .i64 X2] 44)).alloc (.cells #[.int .i64 Y1, .int .i64 Y2] 44) := ⟨_, rfl⟩
  have gV : Gr w V := by rw [hV]; exact Gr.alloc (Gr.alloc (Gr.refl w) _) _
  have hzx : w.heap.size < V.heap.size := by rw [hV]; simp; omega
  have hzy : w.heap.size + 1 < V.heap.size := by rw [hV]; simp
  have cx0 : V.cell? ⟨w.heap.size, 0, none⟩ = some (.int .i64 X1) := by rw [hV]; go_simp
  have cx1 : V.cell? ⟨w.heap.size, 1, none⟩ = some (.int .i64 X2) := by rw [hV]; go_simp
  have cy0 : V.cell? ⟨w.heap.size + 1, 0, none⟩ = some (.int .i64 Y1) := by rw [hV]; go_simp
  have cy1 : V.cell? ⟨w.heap.size + 1, 1, none⟩ = some (.int .i64 Y2) := by rw [hV]; go_simp
  have HV := Lib.hid hV
  have HG := Lib.hid gV
  clear hV gV
  obtain ⟨q1, q2, q3, q4⟩ := hFF
  by_cases h1 : X1 < Y1
  · have e1 : decide (X1 < Y1) = true := decide_eq_true h1
    cases h2 : (Y1 % X1 == 0)
    · clear q1 q3 hm1 hm2
      go_enter Tryd.func32, Tryd.ntmps32
      go_upto_region 1 with (fail)
      rw [← HV.out]
      clear HV
      refine region_R (by kernel_rfl) (by kernel_rfl) ?_
      refine r_val (v := ?qv134) (by kernel_rfl) (fun W hW => ?qh134) ?qr134
      case qh134 =>
        go_light
        go_simp
        rfl
      simp only [Act.put, List.setIfInBounds_toArray, List.set_cons_zero, List.set_cons_succ]
      refine r_val (v := ?qv135) (by kernel_rfl) (fun W hW => ?qh135) ?qr135
      case qh135 =>
        have g := (Below.cell hW (p := ⟨w.heap.size + 1, 0, none⟩) hzy).trans cy0
        go_light
        go_simp
        rfl
      simp only [Act.put, List.setIfInBounds_toArray, List.set_cons_zero, List.set_cons_succ]
      refine r_val (v := ?qv136) (by kernel_rfl) (fun W hW => ?qh136) ?qr136
      case qh136 =>
        go_light
        go_simp
        rfl
      simp only [Act.put, List.setIfInBounds_toArray, List.set_cons_zero, List.set_cons_succ]
      refine r_val (v := ?qv137) (by kernel_rfl) (fun W hW => ?qh137) ?qr137
      case qh137 =>
        have g := (Below.cell hW (p := ⟨w.heap.size, 0, none⟩) hzx).trans cx0
        go_light
        go_simp
        rfl
      simp only [Act.put, List.setIfInBounds_toArray, List.set_cons_zero, List.set_cons_succ]
      refine r_val (v := ?qv138) (by kernel_rfl) (fun W hW => ?qh138) ?qr138
      case qh138 =>
        go_light
        go_simp
        rfl
      simp only [Act.put, List.setIfInBounds_toArray, List.set_cons_zero, List.set_cons_succ]
      refine r_val (v := ?qv139) (by kernel_rfl) (fun W hW => ?qh139) ?qr139
      case qh139 =>
        go_light
        go_simp
        rfl
      simp only [Act.put, List.setIfInBounds_toArray, List.set_cons_zero, List.set_cons_succ]
      refine r_val (v := ?qv140) (by kernel_rfl) (fun W hW => ?qh140) ?qr140
      case qh140 =>
        go_light
        go_simp
        rfl
      simp only [Act.put, List.setIfInBounds_toArray, List.set_cons_zero, List.set_cons_succ]
      refine r_val (v := ?qv141) (by kernel_rfl) (fun W hW => ?qh141) ?qr141
      case qh141 =>
        have g := (Below.cell hW (p := ⟨w.heap.size + 1, 0, none⟩) hzy).trans cy0
        go_light
        go_simp
        rfl
      simp only [Act.put, List.setIfInBounds_toArray, List.set_cons_zero, List.set_cons_succ]
      refine r_val (v := ?qv142) (by kernel_rfl) (fun W hW => ?qh142) ?qr142
      case qh142 =>
        go_light
        go_simp
        rfl
      simp only [Act.put, List.setIfInBounds_toArray, List.set_cons_zero, List.set_cons_succ]
      refine r_val (v := ?qv143) (by kernel_rfl) (fun W hW => ?qh143) ?qr143
      case qh143 =>
        have g := (Below.cell hW (p := ⟨w.heap.size, 0, none⟩) hzx).trans cx0
        go_light
        go_simp
        rfl
      simp only [Act.put, List.setIfInBounds_toArray, List.set_cons_zero, List.set_cons_succ]
      refine r_val (v := ?qv144) (by kernel_rfl) (fun W hW => ?qh144) ?qr144
      case qh144 =>
        go_light
        go_simp
        rfl
      simp only [Act.put, List.setIfInBounds_toArray, List.set_cons_zero, List.set_cons_succ]
      refine r_val (v := ?qv145) (by kernel_rfl) (fun W hW => ?qh145) ?qr145
      case qh145 =>
        go_light
        go_simp
        rfl
      simp only [Act.put, List.setIfInBounds_toArray, List.set_cons_zero, List.set_cons_succ]
      refine r_val (v := ?qv146) (by kernel_rfl) (fun W hW => ?qh146) ?qr146
      case qh146 =>
        go_light
        go_simp
        rfl
      simp only [Act.put, List.setIfInBounds_toArray, List.set_cons_zero, List.set_cons_succ]
      refine r_val (v := ?qv147) (by kernel_rfl) (fun W hW => ?qh147) ?qr147
      case qh147 =>
        go_light
        go_simp
        rfl
      simp only [Act.put, List.setIfInBounds_toArray, List.set_cons_zero, List.set_cons_succ]
      refine r_skip (by kernel_rfl) ?_
      simp only [Act.put, List.setIfInBounds_toArray, List.set_cons_zero, List.set_cons_succ]
      refine r_skip (by kernel_rfl) ?_
      simp only [Act.put, List.setIfInBounds_toArray, List.set_cons_zero, List.set_cons_succ]
      refine r_skip (by kernel_rfl) ?_
      simp only [Act.put, List.setIfInBounds_toArray, List.set_cons_zero, List.set_cons_succ]
      refine r_skip (by kernel_rfl) ?_
      simp only [Act.put, List.setIfInBounds_toArray, List.set_cons_zero, List.set_cons_succ]
      refine r_skip (by kernel_rfl) ?_
      simp only [Act.put, List.setIfInBounds_toArray, List.set_cons_zero, List.set_cons_succ]
      refine r_skip (by kernel_rfl) ?_
      simp only [Act.put, List.setIfInBounds_toArray, List.set_cons_zero, List.set_cons_succ]
      refine r_skip (by kernel_rfl) ?_
      simp only [Act.put, List.setIfInBounds_toArray, List.set_cons_zero, List.set_cons_succ]
      refine r_skip (by kernel_rfl) ?_
      simp only [Act.put, List.setIfInBounds_toArray, List.set_cons_zero, List.set_cons_succ]
      refine r_skip (by kernel_rfl) ?_
      simp only [Act.put, List.setIfInBounds_toArray, List.set_cons_zero, List.set_cons_succ]
      refine r_skip (by kernel_rfl) ?_
      simp only [Act.put, List.setIfInBounds_toArray, List.set_cons_zero, List.set_cons_succ]
      refine r_skip (by kernel_rfl) ?_
      simp only [Act.put, List.setIfInBounds_toArray, List.set_cons_zero, List.set_cons_succ]
      refine r_val (v := ?qv148) (by kernel_rfl) (fun W hW => ?qh148) ?qr148
      case qh148 =>
        go_light
        go_simp
        rfl
      simp only [Act.put, List.setIfInBounds_toArray, List.set_cons_zero, List.set_cons_succ]
      refine r_val (v := ?qv149) (by kernel_rfl) (fun W hW => ?qh149) ?qr149
      case qh149 =>
        go_light
        go_simp
        rfl
      simp only [Act.put, List.setIfInBounds_toArray, List.set_cons_zero, List.set_cons_succ]
      refine r_skip (by kernel_rfl) ?_
      simp only [Act.put, List.setIfInBounds_toArray, List.set_cons_zero, List.set_cons_succ]
      refine r_skip (by kernel_rfl) ?_
      simp only [Act.put, List.setIfInBounds_toArray, List.set_cons_zero, List.set_cons_succ]
      refine r_skip (by kernel_rfl) ?_
      simp only [Act.put, List.setIfInBounds_toArray, List.set_cons_zero, List.set_cons_succ]
      refine r_skip (by kernel_rfl) ?_
      simp only [Act.put, List.setIfInBounds_toArray, List.set_cons_zero, List.set_cons_succ]
      refine r_skip (by kernel_rfl) ?_
      simp only [Act.put, List.setIfInBounds_toArray, List.set_cons_zero, List.set_cons_succ]
      refine r_skip (by kernel_rfl) ?_
      simp only [Act.put, List.setIfInBounds_toArray, List.set_cons_zero, List.set_cons_succ]
      refine r_skip (by kernel_rfl) ?_
      simp only [Act.put, List.setIfInBounds_toArray, List.set_cons_zero, List.set_cons_succ]
      refine r_skip (by kernel_rfl) ?_
      simp only [Act.put, List.setIfInBounds_toArray, List.set_cons_zero, List.set_cons_succ]
      refine r_val (v := ?qv150) (by kernel_rfl) (fun W hW => ?qh150) ?qr150
      case qh150 =>
        go_light
        go_simp
        rfl
      simp only [Act.put, List.setIfInBounds_toArray, List.set_cons_zero, List.set_cons_succ]
      refine r_val (v := ?qv151) (by kernel_rfl) (fun W hW => ?qh151) ?qr151
      case qh151 =>
        go_light
        go_simp
        rfl
      simp only [Act.put, List.setIfInBounds_toArray, List.set_cons_zero, List.set_cons_succ]
      refine r_nil ?_
      intro w8 hw8
      go_wp2
      go_ret
      exact ⟨ret_b (by rw [HF.out, e1, h2]; rfl), HG.out.trans hw8⟩
    · by_cases h3 : X1 * X2 < Y1 * Y2
      · have e3 : decide (X1 * X2 < Y1 * Y2) = true := decide_eq_true h3
        by_cases h4 : Y1 / X1 ≤ X2
        · have e4 : decide (Y1 / X1 ≤ X2) = true := decide_eq_true h4
          go_enter Tryd.func32, Tryd.ntmps32
          go_upto_region 1 with (fail)
          rw [← HV.out]
          clear HV
          refine region_R (by kernel_rfl) (by kernel_rfl) ?_
          refine r_val (v := ?qv152) (by kernel_rfl) (fun W hW => ?qh152) ?qr152
          case qh152 =>
            go_light
            go_simp
            rfl
          simp only [Act.put, List.setIfInBounds_toArray, List.set_cons_zero, List.set_cons_succ]
          refine r_val (v := ?qv153) (by kernel_rfl) (fun W hW => ?qh153) ?qr153
          case qh153 =>
            have g := (Below.cell hW (p := ⟨w.heap.size + 1, 0, none⟩) hzy).trans cy0
            go_light
            go_simp
            rfl
          simp only [Act.put, List.setIfInBounds_toArray, List.set_cons_zero, List.set_cons_succ]
          refine r_val (v := ?qv154) (by kernel_rfl) (fun W hW => ?qh154) ?qr154
          case qh154 =>
            go_light
            go_simp
            rfl
          simp only [Act.put, List.setIfInBounds_toArray, List.set_cons_zero, List.set_cons_succ]
          refine r_val (v := ?qv155) (by kernel_rfl) (fun W hW => ?qh155) ?qr155
          case qh155 =>
            have g := (Below.cell hW (p := ⟨w.heap.size, 0, none⟩) hzx).trans cx0
            go_light
            go_simp
            rfl
          simp only [Act.put, List.setIfInBounds_toArray, List.set_cons_zero, List.set_cons_succ]
          refine r_val (v := ?qv156) (by kernel_rfl) (fun W hW => ?qh156) ?qr156
          case qh156 =>
            go_light
            go_simp
            rfl
          simp only [Act.put, List.setIfInBounds_toArray, List.set_cons_zero, List.set_cons_succ]
          refine r_val (v := ?qv157) (by kernel_rfl) (fun W hW => ?qh157) ?qr157
          case qh157 =>
            go_light
            go_simp
            rfl
          simp only [Act.put, List.setIfInBounds_toArray, List.set_cons_zero, List.set_cons_succ]
          refine r_val (v := ?qv158) (by kernel_rfl) (fun W hW => ?qh158) ?qr158
          case qh158 =>
            go_light
            go_simp
            rfl
          simp only [Act.put, List.setIfInBounds_toArray, List.set_cons_zero, List.set_cons_succ]
          refine r_val (v := ?qv159) (by kernel_rfl) (fun W hW => ?qh159) ?qr159
          case qh159 =>
            have g := (Below.cell hW (p := ⟨w.heap.size + 1, 0, none⟩) hzy).trans cy0
            go_light
            go_simp
            rfl
          simp only [Act.put, List.setIfInBounds_toArray, List.set_cons_zero, List.set_cons_succ]
          refine r_val (v := ?qv160) (by kernel_rfl) (fun W hW => ?qh160) ?qr160
          case qh160 =>
            go_light
            go_simp
            rfl
          simp only [Act.put, List.setIfInBounds_toArray, List.set_cons_zero, List.set_cons_succ]
          refine r_val (v := ?qv161) (by kernel_rfl) (fun W hW => ?qh161) ?qr161
          case qh161 =>
            have g := (Below.cell hW (p := ⟨w.heap.size, 0, none⟩) hzx).trans cx0
            go_light
            go_simp
            rfl
          simp only [Act.put, List.setIfInBounds_toArray, List.set_cons_zero, List.set_cons_succ]
          refine r_val (v := ?qv162) (by kernel_rfl) (fun W hW => ?qh162) ?qr162
          case qh162 =>
            go_light
            go_simp
            rfl
          simp only [Act.put, List.setIfInBounds_toArray, List.set_cons_zero, List.set_cons_succ]
          refine r_val (v := ?qv163) (by kernel_rfl) (fun W hW => ?qh163) ?qr163
          case qh163 =>
            go_light
            go_simp
            rfl
          simp only [Act.put, List.setIfInBounds_toArray, List.set_cons_zero, List.set_cons_succ]
          refine r_val (v := ?qv164) (by kernel_rfl) (fun W hW => ?qh164) ?qr164
          case qh164 =>
            go_light
            go_simp
            rfl
          simp only [Act.put, List.setIfInBounds_toArray, List.set_cons_zero, List.set_cons_succ]
          refine r_val (v := ?qv165) (by kernel_rfl) (fun W hW => ?qh165) ?qr165
          case qh165 =>
            go_light
            go_simp
            rfl
          simp only [Act.put, List.setIfInBounds_toArray, List.set_cons_zero, List.set_cons_succ]
          refine r_val (v := ?qv166) (by kernel_rfl) (fun W hW => ?qh166) ?qr166
          case qh166 =>
            go_light
            go_simp
            rfl
          simp only [Act.put, List.setIfInBounds_toArray, List.set_cons_zero, List.set_cons_succ]
          refine r_val (v := ?qv167) (by kernel_rfl) (fun W hW => ?qh167) ?qr167
          case qh167 =>
            have g := (Below.cell hW (p := ⟨w.heap.size + 1, 0, none⟩) hzy).trans cy0
            go_light
            go_simp
            rfl
          simp only [Act.put, List.setIfInBounds_toArray, List.set_cons_zero, List.set_cons_succ]
          refine r_val (v := ?qv168) (by kernel_rfl) (fun W hW => ?qh168) ?qr168
          case qh168 =>
            go_light
            go_simp
            rfl
          simp only [Act.put, List.setIfInBounds_toArray, List.set_cons_zero, List.set_cons_succ]
          refine r_val (v := ?qv169) (by kernel_rfl) (fun W hW => ?qh169) ?qr169
          case qh169 =>
            have g := (Below.cell hW (p := ⟨w.heap.size + 1, 1, none⟩) hzy).trans cy1
            go_light
            go_simp
            rfl
          simp only [Act.put, List.setIfInBounds_toArray, List.set_cons_zero, List.set_cons_succ]
          refine r_val (v := ?qv170) (by kernel_rfl) (fun W hW => ?qh170) ?qr170
          case qh170 =>
            go_light
            go_simp
            rfl
          simp only [Act.put, List.setIfInBounds_toArray, List.set_cons_zero, List.set_cons_succ]
          refine r_val (v := ?qv171) (by kernel_rfl) (fun W hW => ?qh171) ?qr171
          case qh171 =>
            go_light
            go_simp
            rfl
          simp only [Act.put, List.setIfInBounds_toArray, List.set_cons_zero, List.set_cons_succ]
          refine r_val (v := ?qv172) (by kernel_rfl) (fun W hW => ?qh172) ?qr172
          case qh172 =>
            have g := (Below.cell hW (p := ⟨w.heap.size, 0, none⟩) hzx).trans cx0
            go_light
            go_simp
            rfl
          simp only [Act.put, List.setIfInBounds_toArray, List.set_cons_zero, List.set_cons_succ]
          refine r_val (v := ?qv173) (by kernel_rfl) (fun W hW => ?qh173) ?qr173
          case qh173 =>
            go_light
            go_simp
            rfl
          simp only [Act.put, List.setIfInBounds_toArray, List.set_cons_zero, List.set_cons_succ]
          refine r_val (v := ?qv174) (by kernel_rfl) (fun W hW => ?qh174) ?qr174
          case qh174 =>
            have g := (Below.cell hW (p := ⟨w.heap.size, 1, none⟩) hzx).trans cx1
            go_light
            go_simp
            rfl
          simp only [Act.put, List.setIfInBounds_toArray, List.set_cons_zero, List.set_cons_succ]
          refine r_val (v := ?qv175) (by kernel_rfl) (fun W hW => ?qh175) ?qr175
          case qh175 =>
            go_light
            go_simp
            rfl
          simp only [Act.put, List.setIfInBounds_toArray, List.set_cons_zero, List.set_cons_succ]
          refine r_val (v := ?qv176) (by kernel_rfl) (fun W hW => ?qh176) ?qr176
          case qh176 =>
            go_light
            go_simp
            rfl
          simp only [Act.put, List.setIfInBounds_toArray, List.set_cons_zero, List.set_cons_succ]
          refine r_val (v := ?qv177) (by kernel_rfl) (fun W hW => ?qh177) ?qr177
          case qh177 =>
            go_light
            go_simp
            rfl
          simp only [Act.put, List.setIfInBounds_toArray, List.set_cons_zero, List.set_cons_succ]
          refine r_val (v := ?qv178) (by kernel_rfl) (fun W hW => ?qh178) ?qr178
          case qh178 =>
            go_light
            go_simp
            rfl
          simp only [Act.put, List.setIfInBounds_toArray, List.set_cons_zero, List.set_cons_succ]
          refine r_val (v := ?qv179) (by kernel_rfl) (fun W hW => ?qh179) ?qr179
          case qh179 =>
            go_light
            go_simp
            rfl
          simp only [Act.put, List.setIfInBounds_toArray, List.set_cons_zero, List.set_cons_succ]
          refine r_val (v := ?qv180) (by kernel_rfl) (fun W hW => ?qh180) ?qr180
          case qh180 =>
            have g := (Below.cell hW (p := ⟨w.heap.size, 1, none⟩) hzx).trans cx1
            go_light
            go_simp
            rfl
          simp only [Act.put, List.setIfInBounds_toArray, List.set_cons_zero, List.set_cons_succ]
          refine r_val (v := ?qv181) (by kernel_rfl) (fun W hW => ?qh181) ?qr181
          case qh181 =>
            go_light
            go_simp
            rfl
          simp only [Act.put, List.setIfInBounds_toArray, List.set_cons_zero, List.set_cons_succ]
          refine r_val (v := ?qv182) (by kernel_rfl) (fun W hW => ?qh182) ?qr182
          case qh182 =>
            have g := (Below.cell hW (p := ⟨w.heap.size + 1, 0, none⟩) hzy).trans cy0
            go_light
            go_simp
            rfl
          simp only [Act.put, List.setIfInBounds_toArray, List.set_cons_zero, List.set_cons_succ]
          refine r_val (v := ?qv183) (by kernel_rfl) (fun W hW => ?qh183) ?qr183
          case qh183 =>
            go_light
            go_simp
            rfl
          simp only [Act.put, List.setIfInBounds_toArray, List.set_cons_zero, List.set_cons_succ]
          refine r_val (v := ?qv184) (by kernel_rfl) (fun W hW => ?qh184) ?qr184
          case qh184 =>
            have g := (Below.cell hW (p := ⟨w.heap.size, 0, none⟩) hzx).trans cx0
            go_light
            go_simp
            rfl
          simp only [Act.put, List.setIfInBounds_toArray, List.set_cons_zero, List.set_cons_succ]
          refine r_val (v := ?qv185) (by kernel_rfl) (fun W hW => ?qh185) ?qr185
          case qh185 =>
            go_light
            go_simp
            rfl
          simp only [Act.put, List.setIfInBounds_toArray, List.set_cons_zero, List.set_cons_succ]
          refine r_val (v := ?qv186) (by kernel_rfl) (fun W hW => ?qh186) ?qr186
          case qh186 =>
            go_light
            go_simp
            rfl
          simp only [Act.put, List.setIfInBounds_toArray, List.set_cons_zero, List.set_cons_succ]
          refine r_val (v := ?qv187) (by kernel_rfl) (fun W hW => ?qh187) ?qr187
          case qh187 =>
            go_light
            go_simp
            rfl
          simp only [Act.put, List.setIfInBounds_toArray, List.set_cons_zero, List.set_cons_succ]
          refine r_val (v := ?qv188) (by kernel_rfl) (fun W hW => ?qh188) ?qr188
          case qh188 =>
            go_light
            go_simp
            rfl
          simp only [Act.put, List.setIfInBounds_toArray, List.set_cons_zero, List.set_cons_succ]
          refine r_nil ?_
          intro w8 hw8
          go_wp2
          go_ret
          exact ⟨ret_b (by rw [HF.out, e1, h2, e3, e4]; rfl), HG.out.trans hw8⟩
        · have e4 : decide (Y1 / X1 ≤ X2) = false := decide_eq_false h4
          go_enter Tryd.func32, Tryd.ntmps32
          go_upto_region 1 with (fail)
          rw [← HV.out]
          clear HV
          refine region_R (by kernel_rfl) (by kernel_rfl) ?_
          refine r_val (v := ?qv189) (by kernel_rfl) (fun W hW => ?qh189) ?qr189
          case qh189 =>
            go_light
            go_simp
            rfl
          simp only [Act.put, List.setIfInBounds_toArray, List.set_cons_zero, List.set_cons_succ]
          refine r_val (v := ?qv190) (by kernel_rfl) (fun W hW => ?qh190) ?qr190
          case qh190 =>
            have g := (Below.cell hW (p := ⟨w.heap.size + 1, 0, none⟩) hzy).trans cy0
            go_light
            go_simp
            rfl
          simp only [Act.put, List.setIfInBounds_toArray, List.set_cons_zero, List.set_cons_succ]
          refine r_val (v := ?qv191) (by kernel_rfl) (fun W hW => ?qh191) ?qr191
          case qh191 =>
            go_light
            go_simp
            rfl
          simp only [Act.put, List.setIfInBounds_toArray, List.set_cons_zero, List.set_cons_succ]
          refine r_val (v := ?qv192) (by kernel_rfl) (fun W hW => ?qh192) ?qr192
          case qh192 =>
            have g := (Below.cell hW (p := ⟨w.heap.size, 0, none⟩) hzx).trans cx0
            go_light
            go_simp
            rfl
          simp only [Act.put, List.setIfInBounds_toArray, List.set_cons_zero, List.set_cons_succ]
          refine r_val (v := ?qv193) (by kernel_rfl) (fun W hW => ?qh193) ?qr193
          case qh193 =>
            go_light
            go_simp
            rfl
          simp only [Act.put, List.setIfInBounds_toArray, List.set_cons_zero, List.set_cons_succ]
          refine r_val (v := ?qv194) (by kernel_rfl) (fun W hW => ?qh194) ?qr194
          case qh194 =>
            go_light
            go_simp
            rfl
          simp only [Act.put, List.setIfInBounds_toArray, List.set_cons_zero, List.set_cons_succ]
          refine r_val (v := ?qv195) (by kernel_rfl) (fun W hW => ?qh195) ?qr195
          case qh195 =>
            go_light
            go_simp
            rfl
          simp only [Act.put, List.setIfInBounds_toArray, List.set_cons_zero, List.set_cons_succ]
          refine r_val (v := ?qv196) (by kernel_rfl) (fun W hW => ?qh196) ?qr196
          case qh196 =>
            have g := (Below.cell hW (p := ⟨w.heap.size + 1, 0, none⟩) hzy).trans cy0
            go_light
            go_simp
            rfl
          simp only [Act.put, List.setIfInBounds_toArray, List.set_cons_zero, List.set_cons_succ]
          refine r_val (v := ?qv197) (by kernel_rfl) (fun W hW => ?qh197) ?qr197
          case qh197 =>
            go_light
            go_simp
            rfl
          simp only [Act.put, List.setIfInBounds_toArray, List.set_cons_zero, List.set_cons_succ]
          refine r_val (v := ?qv198) (by kernel_rfl) (fun W hW => ?qh198) ?qr198
          case qh198 =>
            have g := (Below.cell hW (p := ⟨w.heap.size, 0, none⟩) hzx).trans cx0
            go_light
            go_simp
            rfl
          simp only [Act.put, List.setIfInBounds_toArray, List.set_cons_zero, List.set_cons_succ]
          refine r_val (v := ?qv199) (by kernel_rfl) (fun W hW => ?qh199) ?qr199
          case qh199 =>
            go_light
            go_simp
            rfl
          simp only [Act.put, List.setIfInBounds_toArray, List.set_cons_zero, List.set_cons_succ]
          refine r_val (v := ?qv200) (by kernel_rfl) (fun W hW => ?qh200) ?qr200
          case qh200 =>
            go_light
            go_simp
            rfl
          simp only [Act.put, List.setIfInBounds_toArray, List.set_cons_zero, List.set_cons_succ]
          refine r_val (v := ?qv201) (by kernel_rfl) (fun W hW => ?qh201) ?qr201
          case qh201 =>
            go_light
            go_simp
            rfl
          simp only [Act.put, List.setIfInBounds_toArray, List.set_cons_zero, List.set_cons_succ]
          refine r_val (v := ?qv202) (by kernel_rfl) (fun W hW => ?qh202) ?qr202
          case qh202 =>
            go_light
            go_simp
            rfl
          simp only [Act.put, List.setIfInBounds_toArray, List.set_cons_zero, List.set_cons_succ]
          refine r_val (v := ?qv203) (by kernel_rfl) (fun W hW => ?qh203) ?qr203
          case qh203 =>
            go_light
            go_simp
            rfl
          simp only [Act.put, List.setIfInBounds_toArray, List.set_cons_zero, List.set_cons_succ]
          refine r_val (v := ?qv204) (by kernel_rfl) (fun W hW => ?qh204) ?qr204
          case qh204 =>
            have g := (Below.cell hW (p := ⟨w.heap.size + 1, 0, none⟩) hzy).trans cy0
            go_light
            go_simp
            rfl
          simp only [Act.put, List.setIfInBounds_toArray, List.set_cons_zero, List.set_cons_succ]
          refine r_val (v := ?qv205) (by kernel_rfl) (fun W hW => ?qh205) ?qr205
          case qh205 =>
            go_light
            go_simp
            rfl
          simp only [Act.put, List.setIfInBounds_toArray, List.set_cons_zero, List.set_cons_succ]
          refine r_val (v := ?qv206) (by kernel_rfl) (fun W hW => ?qh206) ?qr206
          case qh206 =>
            have g := (Below.cell hW (p := ⟨w.heap.size + 1, 1, none⟩) hzy).trans cy1
            go_light
            go_simp
            rfl
          simp only [Act.put, List.setIfInBounds_toArray, List.set_cons_zero, List.set_cons_succ]
          refine r_val (v := ?qv207) (by kernel_rfl) (fun W hW => ?qh207) ?qr207
          case qh207 =>
            go_light
            go_simp
            rfl
          simp only [Act.put, List.setIfInBounds_toArray, List.set_cons_zero, List.set_cons_succ]
          refine r_val (v := ?qv208) (by kernel_rfl) (fun W hW => ?qh208) ?qr208
          case qh208 =>
            go_light
            go_simp
            rfl
          simp only [Act.put, List.setIfInBounds_toArray, List.set_cons_zero, List.set_cons_succ]
          refine r_val (v := ?qv209) (by kernel_rfl) (fun W hW => ?qh209) ?qr209
          case qh209 =>
            have g := (Below.cell hW (p := ⟨w.heap.size, 0, none⟩) hzx).trans cx0
            go_light
            go_simp
            rfl
          simp only [Act.put, List.setIfInBounds_toArray, List.set_cons_zero, List.set_cons_succ]
          refine r_val (v := ?qv210) (by kernel_rfl) (fun W hW => ?qh210) ?qr210
          case qh210 =>
            go_light
            go_simp
            rfl
          simp only [Act.put, List.setIfInBounds_toArray, List.set_cons_zero, List.set_cons_succ]
          refine r_val (v := ?qv211) (by kernel_rfl) (fun W hW => ?qh211) ?qr211
          case qh211 =>
            have g := (Below.cell hW (p := ⟨w.heap.size, 1, none⟩) hzx).trans cx1
            go_light
            go_simp
            rfl
          simp only [Act.put, List.setIfInBounds_toArray, List.set_cons_zero, List.set_cons_succ]
          refine r_val (v := ?qv212) (by kernel_rfl) (fun W hW => ?qh212) ?qr212
          case qh212 =>
            go_light
            go_simp
            rfl
          simp only [Act.put, List.setIfInBounds_toArray, List.set_cons_zero, List.set_cons_succ]
          refine r_val (v := ?qv213) (by kernel_rfl) (fun W hW => ?qh213) ?qr213
          case qh213 =>
            go_light
            go_simp
            rfl
          simp only [Act.put, List.setIfInBounds_toArray, List.set_cons_zero, List.set_cons_succ]
          refine r_val (v := ?qv214) (by kernel_rfl) (fun W hW => ?qh214) ?qr214
          case qh214 =>
            go_light
            go_simp
            rfl
          simp only [Act.put, List.setIfInBounds_toArray, List.set_cons_zero, List.set_cons_succ]
          refine r_val (v := ?qv215) (by kernel_rfl) (fun W hW => ?qh215) ?qr215
          case qh215 =>
            go_light
            go_simp
            rfl
          simp only [Act.put, List.setIfInBounds_toArray, List.set_cons_zero, List.set_cons_succ]
          refine r_val (v := ?qv216) (by kernel_rfl) (fun W hW => ?qh216) ?qr216
          case qh216 =>
            go_light
            go_simp
            rfl
          simp only [Act.put, List.setIfInBounds_toArray, List.set_cons_zero, List.set_cons_succ]
          refine r_val (v := ?qv217) (by kernel_rfl) (fun W hW => ?qh217) ?qr217
          case qh217 =>
            have g := (Below.cell hW (p := ⟨w.heap.size, 1, none⟩) hzx).trans cx1
            go_light
            go_simp
            rfl
          simp only [Act.put, List.setIfInBounds_toArray, List.set_cons_zero, List.set_cons_succ]
          refine r_val (v := ?qv218) (by kernel_rfl) (fun W hW => ?qh218) ?qr218
          case qh218 =>
            go_light
            go_simp
            rfl
          simp only [Act.put, List.setIfInBounds_toArray, List.set_cons_zero, List.set_cons_succ]
          refine r_val (v := ?qv219) (by kernel_rfl) (fun W hW => ?qh219) ?qr219
          case qh219 =>
            have g := (Below.cell hW (p := ⟨w.heap.size + 1, 0, none⟩) hzy).trans cy0
            go_light
            go_simp
            rfl
          simp only [Act.put, List.setIfInBounds_toArray, List.set_cons_zero, List.set_cons_succ]
          refine r_val (v := ?qv220) (by kernel_rfl) (fun W hW => ?qh220) ?qr220
          case qh220 =>
            go_light
            go_simp
            rfl
          simp only [Act.put, List.setIfInBounds_toArray, List.set_cons_zero, List.set_cons_succ]
          refine r_val (v := ?qv221) (by kernel_rfl) (fun W hW => ?qh221) ?qr221
          case qh221 =>
            have g := (Below.cell hW (p := ⟨w.heap.size, 0, none⟩) hzx).trans cx0
            go_light
            go_simp
            rfl
          simp only [Act.put, List.setIfInBounds_toArray, List.set_cons_zero, List.set_cons_succ]
          refine r_val (v := ?qv222) (by kernel_rfl) (fun W hW => ?qh222) ?qr222
          case qh222 =>
            go_light
            go_simp
            rfl
          simp only [Act.put, List.setIfInBounds_toArray, List.set_cons_zero, List.set_cons_succ]
          refine r_val (v := ?qv223) (by kernel_rfl) (fun W hW => ?qh223) ?qr223
          case qh223 =>
            go_light
            go_simp
            rfl
          simp only [Act.put, List.setIfInBounds_toArray, List.set_cons_zero, List.set_cons_succ]
          refine r_val (v := ?qv224) (by kernel_rfl) (fun W hW => ?qh224) ?qr224
          case qh224 =>
            go_light
            go_simp
            rfl
          simp only [Act.put, List.setIfInBounds_toArray, List.set_cons_zero, List.set_cons_succ]
          refine r_val (v := ?qv225) (by kernel_rfl) (fun W hW => ?qh225) ?qr225
          case qh225 =>
            go_light
            go_simp
            rfl
          simp only [Act.put, List.setIfInBounds_toArray, List.set_cons_zero, List.set_cons_succ]
          refine r_nil ?_
          intro w8 hw8
          go_wp2
          go_ret
          exact ⟨ret_b (by rw [HF.out, e1, h2, e3, e4]; rfl), HG.out.trans hw8⟩
      · have e3 : decide (X1 * X2 < Y1 * Y2) = false := decide_eq_false h3
        clear q1 q3
        go_enter Tryd.func32, Tryd.ntmps32
        go_upto_region 1 with (fail)
        rw [← HV.out]
        clear HV
        refine region_R (by kernel_rfl) (by kernel_rfl) ?_
        refine r_val (v := ?qv226) (by kernel_rfl) (fun W hW => ?qh226) ?qr226
        case qh226 =>
          go_light
          go_simp
          rfl
        simp only [Act.put, List.setIfInBounds_toArray, List.set_cons_zero, List.set_cons_succ]
        refine r_val (v := ?qv227) (by kernel_rfl) (fun W hW => ?qh227) ?qr227
        case qh227 =>
          have g := (Below.cell hW (p := ⟨w.heap.size + 1, 0, none⟩) hzy).trans cy0
          go_light
          go_simp
          rfl
        simp only [Act.put, List.setIfInBounds_toArray, List.set_cons_zero, List.set_cons_succ]
        refine r_val (v := ?qv228) (by kernel_rfl) (fun W hW => ?qh228) ?qr228
        case qh228 =>
          go_light
          go_simp
          rfl
        simp only [Act.put, List.setIfInBounds_toArray, List.set_cons_zero, List.set_cons_succ]
        refine r_val (v := ?qv229) (by kernel_rfl) (fun W hW => ?qh229) ?qr229
        case qh229 =>
          have g := (Below.cell hW (p := ⟨w.heap.size, 0, none⟩) hzx).trans cx0
          go_light
          go_simp
          rfl
        simp only [Act.put, List.setIfInBounds_toArray, List.set_cons_zero, List.set_cons_succ]
        refine r_val (v := ?qv230) (by kernel_rfl) (fun W hW => ?qh230) ?qr230
        case qh230 =>
          go_light
          go_simp
          rfl
        simp only [Act.put, List.setIfInBounds_toArray, List.set_cons_zero, List.set_cons_succ]
        refine r_val (v := ?qv231) (by kernel_rfl) (fun W hW => ?qh231) ?qr231
        case qh231 =>
          go_light
          go_simp
          rfl
        simp only [Act.put, List.setIfInBounds_toArray, List.set_cons_zero, List.set_cons_succ]
        refine r_val (v := ?qv232) (by kernel_rfl) (fun W hW => ?qh232) ?qr232
        case qh232 =>
          go_light
          go_simp
          rfl
        simp only [Act.put, List.setIfInBounds_toArray, List.set_cons_zero, List.set_cons_succ]
        refine r_val (v := ?qv233) (by kernel_rfl) (fun W hW => ?qh233) ?qr233
        case qh233 =>
          have g := (Below.cell hW (p := ⟨w.heap.size + 1, 0, none⟩) hzy).trans cy0
          go_light
          go_simp
          rfl
        simp only [Act.put, List.setIfInBounds_toArray, List.set_cons_zero, List.set_cons_succ]
        refine r_val (v := ?qv234) (by kernel_rfl) (fun W hW => ?qh234) ?qr234
        case qh234 =>
          go_light
          go_simp
          rfl
        simp only [Act.put, List.setIfInBounds_toArray, List.set_cons_zero, List.set_cons_succ]
        refine r_val (v := ?qv235) (by kernel_rfl) (fun W hW => ?qh235) ?qr235
        case qh235 =>
          have g := (Below.cell hW (p := ⟨w.heap.size, 0, none⟩) hzx).trans cx0
          go_light
          go_simp
          rfl
        simp only [Act.put, List.setIfInBounds_toArray, List.set_cons_zero, List.set_cons_succ]
        refine r_val (v := ?qv236) (by kernel_rfl) (fun W hW => ?qh236) ?qr236
        case qh236 =>
          go_light
          go_simp
          rfl
        simp only [Act.put, List.setIfInBounds_toArray, List.set_cons_zero, List.set_cons_succ]
        refine r_val (v := ?qv237) (by kernel_rfl) (fun W hW => ?qh237) ?qr237
        case qh237 =>
          go_light
          go_simp
          rfl
        simp only [Act.put, List.setIfInBounds_toArray, List.set_cons_zero, List.set_cons_succ]
        refine r_val (v := ?qv238) (by kernel_rfl) (fun W hW => ?qh238) ?qr238
        case qh238 =>
          go_light
          go_simp
          rfl
        simp only [Act.put, List.setIfInBounds_toArray, List.set_cons_zero, List.set_cons_succ]
        refine r_val (v := ?qv239) (by kernel_rfl) (fun W hW => ?qh239) ?qr239
        case qh239 =>
          go_light
          go_simp
          rfl
        simp only [Act.put, List.setIfInBounds_toArray, List.set_cons_zero, List.set_cons_succ]
        refine r_val (v := ?qv240) (by kernel_rfl) (fun W hW => ?qh240) ?qr240
        case qh240 =>
          go_light
          go_simp
          rfl
        simp only [Act.put, List.setIfInBounds_toArray, List.set_cons_zero, List.set_cons_succ]
        refine r_val (v := ?qv241) (by kernel_rfl) (fun W hW => ?qh241) ?qr241
        case qh241 =>
          have g := (Below.cell hW (p := ⟨w.heap.size + 1, 0, none⟩) hzy).trans cy0
          go_light
          go_simp
          rfl
        simp only [Act.put, List.setIfInBounds_toArray, List.set_cons_zero, List.set_cons_succ]
        refine r_val (v := ?qv242) (by kernel_rfl) (fun W hW => ?qh242) ?qr242
        case qh242 =>
          go_light
          go_simp
          rfl
        simp only [Act.put, List.setIfInBounds_toArray, List.set_cons_zero, List.set_cons_succ]
        refine r_val (v := ?qv243) (by kernel_rfl) (fun W hW => ?qh243) ?qr243
        case qh243 =>
          have g := (Below.cell hW (p := ⟨w.heap.size + 1, 1, none⟩) hzy).trans cy1
          go_light
          go_simp
          rfl
        simp only [Act.put, List.setIfInBounds_toArray, List.set_cons_zero, List.set_cons_succ]
        refine r_val (v := ?qv244) (by kernel_rfl) (fun W hW => ?qh244) ?qr244
        case qh244 =>
          go_light
          go_simp
          rfl
        simp only [Act.put, List.setIfInBounds_toArray, List.set_cons_zero, List.set_cons_succ]
        refine r_val (v := ?qv245) (by kernel_rfl) (fun W hW => ?qh245) ?qr245
        case qh245 =>
          go_light
          go_simp
          rfl
        simp only [Act.put, List.setIfInBounds_toArray, List.set_cons_zero, List.set_cons_succ]
        refine r_val (v := ?qv246) (by kernel_rfl) (fun W hW => ?qh246) ?qr246
        case qh246 =>
          have g := (Below.cell hW (p := ⟨w.heap.size, 0, none⟩) hzx).trans cx0
          go_light
          go_simp
          rfl
        simp only [Act.put, List.setIfInBounds_toArray, List.set_cons_zero, List.set_cons_succ]
        refine r_val (v := ?qv247) (by kernel_rfl) (fun W hW => ?qh247) ?qr247
        case qh247 =>
          go_light
          go_simp
          rfl
        simp only [Act.put, List.setIfInBounds_toArray, List.set_cons_zero, List.set_cons_succ]
        refine r_val (v := ?qv248) (by kernel_rfl) (fun W hW => ?qh248) ?qr248
        case qh248 =>
          have g := (Below.cell hW (p := ⟨w.heap.size, 1, none⟩) hzx).trans cx1
          go_light
          go_simp
          rfl
        simp only [Act.put, List.setIfInBounds_toArray, List.set_cons_zero, List.set_cons_succ]
        refine r_val (v := ?qv249) (by kernel_rfl) (fun W hW => ?qh249) ?qr249
        case qh249 =>
          go_light
          go_simp
          rfl
        simp only [Act.put, List.setIfInBounds_toArray, List.set_cons_zero, List.set_cons_succ]
        refine r_val (v := ?qv250) (by kernel_rfl) (fun W hW => ?qh250) ?qr250
        case qh250 =>
          go_light
          go_simp
          rfl
        simp only [Act.put, List.setIfInBounds_toArray, List.set_cons_zero, List.set_cons_succ]
        refine r_val (v := ?qv251) (by kernel_rfl) (fun W hW => ?qh251) ?qr251
        case qh251 =>
          go_light
          go_simp
          rfl
        simp only [Act.put, List.setIfInBounds_toArray, List.set_cons_zero, List.set_cons_succ]
        refine r_val (v := ?qv252) (by kernel_rfl) (fun W hW => ?qh252) ?qr252
        case qh252 =>
          go_light
          go_simp
          rfl
        simp only [Act.put, List.setIfInBounds_toArray, List.set_cons_zero, List.set_cons_succ]
        refine r_skip (by kernel_rfl) ?_
        simp only [Act.put, List.setIfInBounds_toArray, List.set_cons_zero, List.set_cons_succ]
        refine r_skip (by kernel_rfl) ?_
        simp only [Act.put, List.setIfInBounds_toArray, List.set_cons_zero, List.set_cons_succ]
        refine r_skip (by kernel_rfl) ?_
        simp only [Act.put, List.setIfInBounds_toArray, List.set_cons_zero, List.set_cons_succ]
        refine r_skip (by kernel_rfl) ?_
        simp only [Act.put, List.setIfInBounds_toArray, List.set_cons_zero, List.set_cons_succ]
        refine r_skip (by kernel_rfl) ?_
        simp only [Act.put, List.setIfInBounds_toArray, List.set_cons_zero, List.set_cons_succ]
        refine r_skip (by kernel_rfl) ?_
        simp only [Act.put, List.setIfInBounds_toArray, List.set_cons_zero, List.set_cons_succ]
        refine r_skip (by kernel_rfl) ?_
        simp only [Act.put, List.setIfInBounds_toArray, List.set_cons_zero, List.set_cons_succ]
        refine r_skip (by kernel_rfl) ?_
        simp only [Act.put, List.setIfInBounds_toArray, List.set_cons_zero, List.set_cons_succ]
        refine r_val (v := ?qv253) (by kernel_rfl) (fun W hW => ?qh253) ?qr253
        case qh253 =>
          go_light
          go_simp
          rfl
        simp only [Act.put, List.setIfInBounds_toArray, List.set_cons_zero, List.set_cons_succ]
        refine r_val (v := ?qv254) (by kernel_rfl) (fun W hW => ?qh254) ?qr254
        case qh254 =>
          go_light
          go_simp
          rfl
        simp only [Act.put, List.setIfInBounds_toArray, List.set_cons_zero, List.set_cons_succ]
        refine r_nil ?_
        intro w8 hw8
        go_wp2
        go_ret
        exact ⟨ret_b (by rw [HF.out, e1, h2, e3]; rfl), HG.out.trans hw8⟩
  · have e1 : decide (X1 < Y1) = false := decide_eq_false h1
    clear q1 q2 q3 hm1 hm2
    go_enter Tryd.func32, Tryd.ntmps32
    go_upto_region 1 with (fail)
    rw [← HV.out]
    clear HV
    refine region_R (by kernel_rfl) (by kernel_rfl) ?_
    refine r_val (v := ?qv255) (by kernel_rfl) (fun W hW => ?qh255) ?qr255
    case qh255 =>
      go_light
      go_simp
      rfl
    simp only [Act.put, List.setIfInBounds_toArray, List.set_cons_zero, List.set_cons_succ]
    refine r_val (v := ?qv256) (by kernel_rfl) (fun W hW => ?qh256) ?qr256
    case qh256 =>
      have g := (Below.cell hW (p := ⟨w.heap.size + 1, 0, none⟩) hzy).trans cy0
      go_light
      go_simp
      rfl
    simp only [Act.put, List.setIfInBounds_toArray, List.set_cons_zero, List.set_cons_succ]
    refine r_val (v := ?qv257) (by kernel_rfl) (fun W hW => ?qh257) ?qr257
    case qh257 =>
      go_light
      go_simp
      rfl
    simp only [Act.put, List.setIfInBounds_toArray, List.set_cons_zero, List.set_cons_succ]
    refine r_val (v := ?qv258) (by kernel_rfl) (fun W hW => ?qh258) ?qr258
    case qh258 =>
      have g := (Below.cell hW (p := ⟨w.heap.size, 0, none⟩) hzx).trans cx0
      go_light
      go_simp
      rfl
    simp only [Act.put, List.setIfInBounds_toArray, List.set_cons_zero, List.set_cons_succ]
    refine r_val (v := ?qv259) (by kernel_rfl) (fun W hW => ?qh259) ?qr259
    case qh259 =>
      go_light
      go_simp
      rfl
    simp only [Act.put, List.setIfInBounds_toArray, List.set_cons_zero, List.set_cons_succ]
    refine r_val (v := ?qv260) (by kernel_rfl) (fun W hW => ?qh260) ?qr260
    case qh260 =>
      go_light
      go_simp
      rfl
    simp only [Act.put, List.setIfInBounds_toArray, List.set_cons_zero, List.set_cons_succ]
    refine r_skip (by kernel_rfl) ?_
    simp only [Act.put, List.setIfInBounds_toArray, List.set_cons_zero, List.set_cons_succ]
    refine r_skip (by kernel_rfl) ?_
    simp only [Act.put, List.setIfInBounds_toArray, List.set_cons_zero, List.set_cons_succ]
    refine r_skip (by kernel_rfl) ?_
    simp only [Act.put, List.setIfInBounds_toArray, List.set_cons_zero, List.set_cons_succ]
    refine r_skip (by kernel_rfl) ?_
    simp only [Act.put, List.setIfInBounds_toArray, List.set_cons_zero, List.set_cons_succ]
    refine r_skip (by kernel_rfl) ?_
    simp only [Act.put, List.setIfInBounds_toArray, List.set_cons_zero, List.set_cons_succ]
    refine r_skip (by kernel_rfl) ?_
    simp only [Act.put, List.setIfInBounds_toArray, List.set_cons_zero, List.set_cons_succ]
    refine r_val (v := ?qv261) (by kernel_rfl) (fun W hW => ?qh261) ?qr261
    case qh261 =>
      go_light
      go_simp
      rfl
    simp only [Act.put, List.setIfInBounds_toArray, List.set_cons_zero, List.set_cons_succ]
    refine r_val (v := ?qv262) (by kernel_rfl) (fun W hW => ?qh262) ?qr262
    case qh262 =>
      go_light
      go_simp
      rfl
    simp only [Act.put, List.setIfInBounds_toArray, List.set_cons_zero, List.set_cons_succ]
    refine r_skip (by kernel_rfl) ?_
    simp only [Act.put, List.setIfInBounds_toArray, List.set_cons_zero, List.set_cons_succ]
    refine r_skip (by kernel_rfl) ?_
    simp only [Act.put, List.setIfInBounds_toArray, List.set_cons_zero, List.set_cons_succ]
    refine r_skip (by kernel_rfl) ?_
    simp only [Act.put, List.setIfInBounds_toArray, List.set_cons_zero, List.set_cons_succ]
    refine r_skip (by kernel_rfl) ?_
    simp only [Act.put, List.setIfInBounds_toArray, List.set_cons_zero, List.set_cons_succ]
    refine r_skip (by kernel_rfl) ?_
    simp only [Act.put, List.setIfInBounds_toArray, List.set_cons_zero, List.set_cons_succ]
    refine r_skip (by kernel_rfl) ?_
    simp only [Act.put, List.setIfInBounds_toArray, List.set_cons_zero, List.set_cons_succ]
    refine r_skip (by kernel_rfl) ?_
    simp only [Act.put, List.setIfInBounds_toArray, List.set_cons_zero, List.set_cons_succ]
    refine r_skip (by kernel_rfl) ?_
    simp only [Act.put, List.setIfInBounds_toArray, List.set_cons_zero, List.set_cons_succ]
    refine r_skip (by kernel_rfl) ?_
    simp only [Act.put, List.setIfInBounds_toArray, List.set_cons_zero, List.set_cons_succ]
    refine r_skip (by kernel_rfl) ?_
    simp only [Act.put, List.setIfInBounds_toArray, List.set_cons_zero, List.set_cons_succ]
    refine r_skip (by kernel_rfl) ?_
    simp only [Act.put, List.setIfInBounds_toArray, List.set_cons_zero, List.set_cons_succ]
    refine r_val (v := ?qv263) (by kernel_rfl) (fun W hW => ?qh263) ?qr263
    case qh263 =>
      go_light
      go_simp
      rfl
    simp only [Act.put, List.setIfInBounds_toArray, List.set_cons_zero, List.set_cons_succ]
    refine r_val (v := ?qv264) (by kernel_rfl) (fun W hW => ?qh264) ?qr264
    case qh264 =>
      go_light
      go_simp
      rfl
    simp only [Act.put, List.setIfInBounds_toArray, List.set_cons_zero, List.set_cons_succ]
    refine r_skip (by kernel_rfl) ?_
    simp only [Act.put, List.setIfInBounds_toArray, List.set_cons_zero, List.set_cons_succ]
    refine r_skip (by kernel_rfl) ?_
    simp only [Act.put, List.setIfInBounds_toArray, List.set_cons_zero, List.set_cons_succ]
    refine r_skip (by kernel_rfl) ?_
    simp only [Act.put, List.setIfInBounds_toArray, List.set_cons_zero, List.set_cons_succ]
    refine r_skip (by kernel_rfl) ?_
    simp only [Act.put, List.setIfInBounds_toArray, List.set_cons_zero, List.set_cons_succ]
    refine r_skip (by kernel_rfl) ?_
    simp only [Act.put, List.setIfInBounds_toArray, List.set_cons_zero, List.set_cons_succ]
    refine r_skip (by kernel_rfl) ?_
    simp only [Act.put, List.setIfInBounds_toArray, List.set_cons_zero, List.set_cons_succ]
    refine r_skip (by kernel_rfl) ?_
    simp only [Act.put, List.setIfInBounds_toArray, List.set_cons_zero, List.set_cons_succ]
    refine r_skip (by kernel_rfl) ?_
    simp only [Act.put, List.setIfInBounds_toArray, List.set_cons_zero, List.set_cons_succ]
    refine r_val (v := ?qv265) (by kernel_rfl) (fun W hW => ?qh265) ?qr265
    case qh265 =>
      go_light
      go_simp
      rfl
    simp only [Act.put, List.setIfInBounds_toArray, List.set_cons_zero, List.set_cons_succ]
    refine r_val (v := ?qv266) (by kernel_rfl) (fun W hW => ?qh266) ?qr266
    case qh266 =>
      go_light
      go_simp
      rfl
    simp only [Act.put, List.setIfInBounds_toArray, List.set_cons_zero, List.set_cons_succ]
    refine r_nil ?_
    intro w8 hw8
    go_wp2
    go_ret
    exact ⟨ret_b (by rw [HF.out, e1]; rfl), HG.out.trans hw8⟩
end Go.Proofs.YtfnpmdcbhjabmaaDoor
