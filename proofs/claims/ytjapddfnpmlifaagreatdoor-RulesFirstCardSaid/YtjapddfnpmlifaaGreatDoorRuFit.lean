/- Whether an archive may stand behind another one: whead.fits, side of the reference. -/
import Derived.Test.YtjapddfnpmlifaaGreatDoorRunRuArc2
import Derived.Deep.Light
namespace Go.Proofs.YtjapddfnpmlifaaGreatDoor
set_option linter.unusedVariables false
set_option linter.unusedSimpArgs false
open Go.RowKit

theorem oneOk_iff {a : Nat × Nat} : oneOk a = true ↔ 1 ≤ a.1 ∧ a.1 ≤ 16777216 ∧ 1 ≤ a.2 ∧ a.2 ≤ 16777216 := by
 simp only [oneOk, Bool.and_eq_true, Nat.ble_eq]
 constructor
 ·
  rintro ⟨⟨⟨a, b⟩, c⟩, d⟩; exact ⟨a, b, c, d⟩
 ·
  rintro ⟨a, b, c, d⟩; exact ⟨⟨⟨a, b⟩, c⟩, d⟩
theorem fits_eq (x1 x2 y1 y2 : Nat) : fitsS (x1, x2) (y1, y2) = (decide ((x1 : Int) < y1) && (((y1 : Int) % x1) == 0) && decide ((x1 : Int) * x2 < (y1 : Int) * y2) && decide ((y1 : Int) / x1 ≤ x2)) := by
 unfold fitsS
 simp only
 rw [Bool.eq_iff_iff]
 simp only [Bool.and_eq_true, Nat.blt_eq, Nat.ble_eq, decide_eq_true_eq, beq_iff_eq]
 rw [← Int.natCast_mul, ← Int.natCast_mul, ← Int.natCast_ediv, ← Int.natCast_emod]
 omega
theorem fits_int (x1 x2 y1 y2 : Int) (h1 : 1 ≤ x1) (h2 : x1 ≤ 16777216) (h3 : 1 ≤ y1) (h4 : y1 ≤ 16777216) : IntKind.i64.wrap (Int.tdiv y1 x1) = y1 / x1 ∧ Int.tmod y1 x1 = y1 % x1 ∧ wrap64 (y1 / x1) = y1 / x1 ∧ ¬ x1 = 0 := by
 rw [Int.tdiv_eq_ediv_of_nonneg (by omega), Int.tmod_eq_emod_of_nonneg (by omega)]
 have a := Int.ediv_nonneg (a := y1) (b := x1) (by omega) (by omega)
 have b := Int.ediv_le_self (a := y1) x1 (by omega)
 have c := Int.emod_nonneg y1 (b := x1) (by omega)
 have d := Int.emod_lt_of_pos y1 (b := x1) (by omega)
 exact ⟨IntWalk.i64_in (y1 / x1) (by omega), rfl, IntWalk.wrap64_in (y1 / x1) (by omega), by omega⟩
theorem prod_small (a b : Int) (h1 : 1 ≤ a) (h2 : a ≤ 16777216) (h3 : 1 ≤ b) (h4 : b ≤ 16777216) : IntKind.i64.wrap (a * b) = a * b := by
 have h5 : 0 ≤ a * b := Int.mul_nonneg (by omega) (by omega)
 have h6 : a * b ≤ 16777216 * 16777216 := Int.mul_le_mul h2 h4 (by omega) (by omega)
 exact IntWalk.i64_in (a * b) (by omega)
set_option maxRecDepth 100000 in
set_option maxHeartbeats 6400000 in
theorem whead_fits (x y : Nat × Nat) (hx : oneOk x = true) (hy : oneOk y = true) (w : World) : Calls Tryz.prog 60 #[.agg #[.int .i64 x.1, .int .i64 x.2], .agg #[.int .i64 y.1, .int .i64 y.2]] w fun e w' => e = .returned (.bool (fitsS x y)) ∧ Gr w w' := by
 obtain ⟨x1, x2⟩ := x
 obtain ⟨y1, y2⟩ := y
 obtain ⟨hx1, hx2, hx3, hx4⟩ := oneOk_iff.1 hx
 obtain ⟨hy1, hy2, hy3, hy4⟩ := oneOk_iff.1 hy
 simp only at hx1 hx2 hx3 hx4 hy1 hy2 hy3 hy4 ⊢
 obtain ⟨F, hF⟩ : ∃ F, F = fitsS (x1, x2) (y1, y2) := ⟨_, rfl⟩
 rw [← hF]
 have hFF := fits_int (x1 : Int) x2 y1 y2 (by omega) (by omega) (by omega) (by omega)
 have hm1 := prod_small (x1 : Int) x2 (by omega) (by omega) (by omega) (by omega)
 have hm2 := prod_small (y1 : Int) y2 (by omega) (by omega) (by omega) (by omega)
 have hfi : fitsS (x1, x2) (y1, y2) = (decide ((x1 : Int) < y1) && (((y1 : Int) % x1) == 0) && decide ((x1 : Int) * x2 < (y1 : Int) * y2) && decide ((y1 : Int) / x1 ≤ x2)) := fits_eq _ _ _ _
 rw [hfi] at hF
 have HF := Lib.hid hF
 obtain ⟨X1, hX1⟩ : ∃ X : Int, X = x1 := ⟨_, rfl⟩
 obtain ⟨X2, hX2⟩ : ∃ X : Int, X = x2 := ⟨_, rfl⟩
 obtain ⟨Y1, hY1⟩ : ∃ X : Int, X = y1 := ⟨_, rfl⟩
 obtain ⟨Y2, hY2⟩ : ∃ X : Int, X = y2 := ⟨_, rfl⟩
 have a1 : 1 ≤ X1 ∧ X1 ≤ 16777216 := by omega
 have a2 : 1 ≤ X2 ∧ X2 ≤ 16777216 := by omega
 have a3 : 1 ≤ Y1 ∧ Y1 ≤ 16777216 := by omega
 have a4 : 1 ≤ Y2 ∧ Y2 ≤ 16777216 := by omega
 simp only [← hX1, ← hX2, ← hY1, ← hY2] at HF hFF hm1 hm2 ⊢
 clear hX1 hX2 hY1 hY2 hF hfi hx hy hx1 hx2 hx3 hx4 hy1 hy2 hy3 hy4
 obtain ⟨V, hV⟩ : ∃ V, V = (w.alloc (.cells #[.int .i64 X1, .int .i64 X2] 34)).alloc (.cells #[.int .i64 Y1, .int .i64 Y2] 34) := ⟨_, rfl⟩
 have gV : Gr w V := by rw [hV]; exact Gr.alloc (Gr.alloc (Gr.refl w) _) _
 have hzx : w.heap.size < V.heap.size := by rw [hV]; simp; omega
 have hzy : w.heap.size + 1 < V.heap.size := by rw [hV]; simp
 have cx0 : V.cell? ⟨w.heap.size, 0, none⟩ = some (.int .i64 X1) := by rw [hV]; go_simp
 have cx1 : V.cell? ⟨w.heap.size, 1, none⟩ = some (.int .i64 X2) := by rw [hV]; go_simp
 have cy0 : V.cell? ⟨w.heap.size + 1, 0, none⟩ = some (.int .i64 Y1) := by rw [hV]; go_simp
 have cy1 : V.cell? ⟨w.heap.size + 1, 1, none⟩ = some (.int .i64 Y2) := by rw [hV]; go_simp
 have HV := Lib.hid hV
 have HG := Lib.hid gV
 clear hV gV
 obtain ⟨q1, q2, q3, q4⟩ := hFF
 by_cases h1 : X1 < Y1
 ·
  have e1 : decide (X1 < Y1) = true := decide_eq_true h1
  cases h2 : (Y1 % X1 == 0)
  ·
   clear q1 q3 hm1 hm2
   go_enter Tryz.func60, Tryz.ntmps60
   go_upto_region 1 with (fail)
   rw [← HV.out]
   clear HV
   refine region_R (by kernel_rfl) (by kernel_rfl) ?_
   refine r_val (v := ?_) (by kernel_rfl) (fun W hW => ?_) ?_; rotate_left; (focus go_light; go_simp; rfl); simp only [Pu]
   refine r_val (v := ?qv2) (by kernel_rfl) (fun W hW => ?qh2) ?qr2
   case qh2 => have g := (Below.cell hW (p := ⟨w.heap.size + 1, 0, none⟩) hzy).trans cy0; go_light; go_simp; rfl
   simp only [Pu]
   refine r_val (v := ?_) (by kernel_rfl) (fun W hW => ?_) ?_; rotate_left; (focus go_light; go_simp; rfl); simp only [Pu]
   refine r_val (v := ?qv4) (by kernel_rfl) (fun W hW => ?qh4) ?qr4
   case qh4 => have g := (Below.cell hW (p := ⟨w.heap.size, 0, none⟩) hzx).trans cx0; go_light; go_simp; rfl
   simp only [Pu]
   iterate 3 (refine r_val (v := ?_) (by kernel_rfl) (fun W hW => ?_) ?_; rotate_left; (focus go_light; go_simp; rfl); simp only [Pu])
   refine r_val (v := ?qv8) (by kernel_rfl) (fun W hW => ?qh8) ?qr8
   case qh8 => have g := (Below.cell hW (p := ⟨w.heap.size + 1, 0, none⟩) hzy).trans cy0; go_light; go_simp; rfl
   simp only [Pu]
   refine r_val (v := ?_) (by kernel_rfl) (fun W hW => ?_) ?_; rotate_left; (focus go_light; go_simp; rfl); simp only [Pu]
   refine r_val (v := ?qv10) (by kernel_rfl) (fun W hW => ?qh10) ?qr10
   case qh10 => have g := (Below.cell hW (p := ⟨w.heap.size, 0, none⟩) hzx).trans cx0; go_light; go_simp; rfl
   simp only [Pu]
   iterate 4 (refine r_val (v := ?_) (by kernel_rfl) (fun W hW => ?_) ?_; rotate_left; (focus go_light; go_simp; rfl); simp only [Pu])
   iterate 11 (refine r_skip (by kernel_rfl) ?_; simp only [Pu])
   iterate 2 (refine r_val (v := ?_) (by kernel_rfl) (fun W hW => ?_) ?_; rotate_left; (focus go_light; go_simp; rfl); simp only [Pu])
   iterate 8 (refine r_skip (by kernel_rfl) ?_; simp only [Pu])
   iterate 2 (refine r_val (v := ?_) (by kernel_rfl) (fun W hW => ?_) ?_; rotate_left; (focus go_light; go_simp; rfl); simp only [Pu])
   refine r_nil ?_
   intro w8 hw8
   go_wp2
   go_ret
   exact ⟨ret_b (by rw [HF.out, e1, h2]; rfl), HG.out.trans hw8⟩
  ·
   by_cases h3 : X1 * X2 < Y1 * Y2
   ·
    have e3 : decide (X1 * X2 < Y1 * Y2) = true := decide_eq_true h3
    by_cases h4 : Y1 / X1 ≤ X2
    ·
     have e4 : decide (Y1 / X1 ≤ X2) = true := decide_eq_true h4
     go_enter Tryz.func60, Tryz.ntmps60
     go_upto_region 1 with (fail)
     rw [← HV.out]
     clear HV
     refine region_R (by kernel_rfl) (by kernel_rfl) ?_
     refine r_val (v := ?_) (by kernel_rfl) (fun W hW => ?_) ?_; rotate_left; (focus go_light; go_simp; rfl); simp only [Pu]
     refine r_val (v := ?qv20) (by kernel_rfl) (fun W hW => ?qh20) ?qr20
     case qh20 => have g := (Below.cell hW (p := ⟨w.heap.size + 1, 0, none⟩) hzy).trans cy0; go_light; go_simp; rfl
     simp only [Pu]
     refine r_val (v := ?_) (by kernel_rfl) (fun W hW => ?_) ?_; rotate_left; (focus go_light; go_simp; rfl); simp only [Pu]
     refine r_val (v := ?qv22) (by kernel_rfl) (fun W hW => ?qh22) ?qr22
     case qh22 => have g := (Below.cell hW (p := ⟨w.heap.size, 0, none⟩) hzx).trans cx0; go_light; go_simp; rfl
     simp only [Pu]
     iterate 3 (refine r_val (v := ?_) (by kernel_rfl) (fun W hW => ?_) ?_; rotate_left; (focus go_light; go_simp; rfl); simp only [Pu])
     refine r_val (v := ?qv26) (by kernel_rfl) (fun W hW => ?qh26) ?qr26
     case qh26 => have g := (Below.cell hW (p := ⟨w.heap.size + 1, 0, none⟩) hzy).trans cy0; go_light; go_simp; rfl
     simp only [Pu]
     refine r_val (v := ?_) (by kernel_rfl) (fun W hW => ?_) ?_; rotate_left; (focus go_light; go_simp; rfl); simp only [Pu]
     refine r_val (v := ?qv28) (by kernel_rfl) (fun W hW => ?qh28) ?qr28
     case qh28 => have g := (Below.cell hW (p := ⟨w.heap.size, 0, none⟩) hzx).trans cx0; go_light; go_simp; rfl
     simp only [Pu]
     iterate 5 (refine r_val (v := ?_) (by kernel_rfl) (fun W hW => ?_) ?_; rotate_left; (focus go_light; go_simp; rfl); simp only [Pu])
     refine r_val (v := ?qv34) (by kernel_rfl) (fun W hW => ?qh34) ?qr34
     case qh34 => have g := (Below.cell hW (p := ⟨w.heap.size + 1, 0, none⟩) hzy).trans cy0; go_light; go_simp; rfl
     simp only [Pu]
     refine r_val (v := ?_) (by kernel_rfl) (fun W hW => ?_) ?_; rotate_left; (focus go_light; go_simp; rfl); simp only [Pu]
     refine r_val (v := ?qv36) (by kernel_rfl) (fun W hW => ?qh36) ?qr36
     case qh36 => have g := (Below.cell hW (p := ⟨w.heap.size + 1, 1, none⟩) hzy).trans cy1; go_light; go_simp; rfl
     simp only [Pu]
     iterate 2 (refine r_val (v := ?_) (by kernel_rfl) (fun W hW => ?_) ?_; rotate_left; (focus go_light; go_simp; rfl); simp only [Pu])
     refine r_val (v := ?qv39) (by kernel_rfl) (fun W hW => ?qh39) ?qr39
     case qh39 => have g := (Below.cell hW (p := ⟨w.heap.size, 0, none⟩) hzx).trans cx0; go_light; go_simp; rfl
     simp only [Pu]
     refine r_val (v := ?_) (by kernel_rfl) (fun W hW => ?_) ?_; rotate_left; (focus go_light; go_simp; rfl); simp only [Pu]
     refine r_val (v := ?qv41) (by kernel_rfl) (fun W hW => ?qh41) ?qr41
     case qh41 => have g := (Below.cell hW (p := ⟨w.heap.size, 1, none⟩) hzx).trans cx1; go_light; go_simp; rfl
     simp only [Pu]
     iterate 5 (refine r_val (v := ?_) (by kernel_rfl) (fun W hW => ?_) ?_; rotate_left; (focus go_light; go_simp; rfl); simp only [Pu])
     refine r_val (v := ?qv47) (by kernel_rfl) (fun W hW => ?qh47) ?qr47
     case qh47 => have g := (Below.cell hW (p := ⟨w.heap.size, 1, none⟩) hzx).trans cx1; go_light; go_simp; rfl
     simp only [Pu]
     refine r_val (v := ?_) (by kernel_rfl) (fun W hW => ?_) ?_; rotate_left; (focus go_light; go_simp; rfl); simp only [Pu]
     refine r_val (v := ?qv49) (by kernel_rfl) (fun W hW => ?qh49) ?qr49
     case qh49 => have g := (Below.cell hW (p := ⟨w.heap.size + 1, 0, none⟩) hzy).trans cy0; go_light; go_simp; rfl
     simp only [Pu]
     refine r_val (v := ?_) (by kernel_rfl) (fun W hW => ?_) ?_; rotate_left; (focus go_light; go_simp; rfl); simp only [Pu]
     refine r_val (v := ?qv51) (by kernel_rfl) (fun W hW => ?qh51) ?qr51
     case qh51 => have g := (Below.cell hW (p := ⟨w.heap.size, 0, none⟩) hzx).trans cx0; go_light; go_simp; rfl
     simp only [Pu]
     iterate 4 (refine r_val (v := ?_) (by kernel_rfl) (fun W hW => ?_) ?_; rotate_left; (focus go_light; go_simp; rfl); simp only [Pu])
     refine r_nil ?_
     intro w8 hw8
     go_wp2
     go_ret
     exact ⟨ret_b (by rw [HF.out, e1, h2, e3, e4]; rfl), HG.out.trans hw8⟩
    ·
     have e4 : decide (Y1 / X1 ≤ X2) = false := decide_eq_false h4
     go_enter Tryz.func60, Tryz.ntmps60
     go_upto_region 1 with (fail)
     rw [← HV.out]
     clear HV
     refine region_R (by kernel_rfl) (by kernel_rfl) ?_
     refine r_val (v := ?_) (by kernel_rfl) (fun W hW => ?_) ?_; rotate_left; (focus go_light; go_simp; rfl); simp only [Pu]
     refine r_val (v := ?qv57) (by kernel_rfl) (fun W hW => ?qh57) ?qr57
     case qh57 => have g := (Below.cell hW (p := ⟨w.heap.size + 1, 0, none⟩) hzy).trans cy0; go_light; go_simp; rfl
     simp only [Pu]
     refine r_val (v := ?_) (by kernel_rfl) (fun W hW => ?_) ?_; rotate_left; (focus go_light; go_simp; rfl); simp only [Pu]
     refine r_val (v := ?qv59) (by kernel_rfl) (fun W hW => ?qh59) ?qr59
     case qh59 => have g := (Below.cell hW (p := ⟨w.heap.size, 0, none⟩) hzx).trans cx0; go_light; go_simp; rfl
     simp only [Pu]
     iterate 3 (refine r_val (v := ?_) (by kernel_rfl) (fun W hW => ?_) ?_; rotate_left; (focus go_light; go_simp; rfl); simp only [Pu])
     refine r_val (v := ?qv63) (by kernel_rfl) (fun W hW => ?qh63) ?qr63
     case qh63 => have g := (Below.cell hW (p := ⟨w.heap.size + 1, 0, none⟩) hzy).trans cy0; go_light; go_simp; rfl
     simp only [Pu]
     refine r_val (v := ?_) (by kernel_rfl) (fun W hW => ?_) ?_; rotate_left; (focus go_light; go_simp; rfl); simp only [Pu]
     refine r_val (v := ?qv65) (by kernel_rfl) (fun W hW => ?qh65) ?qr65
     case qh65 => have g := (Below.cell hW (p := ⟨w.heap.size, 0, none⟩) hzx).trans cx0; go_light; go_simp; rfl
     simp only [Pu]
     iterate 5 (refine r_val (v := ?_) (by kernel_rfl) (fun W hW => ?_) ?_; rotate_left; (focus go_light; go_simp; rfl); simp only [Pu])
     refine r_val (v := ?qv71) (by kernel_rfl) (fun W hW => ?qh71) ?qr71
     case qh71 => have g := (Below.cell hW (p := ⟨w.heap.size + 1, 0, none⟩) hzy).trans cy0; go_light; go_simp; rfl
     simp only [Pu]
     refine r_val (v := ?_) (by kernel_rfl) (fun W hW => ?_) ?_; rotate_left; (focus go_light; go_simp; rfl); simp only [Pu]
     refine r_val (v := ?qv73) (by kernel_rfl) (fun W hW => ?qh73) ?qr73
     case qh73 => have g := (Below.cell hW (p := ⟨w.heap.size + 1, 1, none⟩) hzy).trans cy1; go_light; go_simp; rfl
     simp only [Pu]
     iterate 2 (refine r_val (v := ?_) (by kernel_rfl) (fun W hW => ?_) ?_; rotate_left; (focus go_light; go_simp; rfl); simp only [Pu])
     refine r_val (v := ?qv76) (by kernel_rfl) (fun W hW => ?qh76) ?qr76
     case qh76 => have g := (Below.cell hW (p := ⟨w.heap.size, 0, none⟩) hzx).trans cx0; go_light; go_simp; rfl
     simp only [Pu]
     refine r_val (v := ?_) (by kernel_rfl) (fun W hW => ?_) ?_; rotate_left; (focus go_light; go_simp; rfl); simp only [Pu]
     refine r_val (v := ?qv78) (by kernel_rfl) (fun W hW => ?qh78) ?qr78
     case qh78 => have g := (Below.cell hW (p := ⟨w.heap.size, 1, none⟩) hzx).trans cx1; go_light; go_simp; rfl
     simp only [Pu]
     iterate 5 (refine r_val (v := ?_) (by kernel_rfl) (fun W hW => ?_) ?_; rotate_left; (focus go_light; go_simp; rfl); simp only [Pu])
     refine r_val (v := ?qv84) (by kernel_rfl) (fun W hW => ?qh84) ?qr84
     case qh84 => have g := (Below.cell hW (p := ⟨w.heap.size, 1, none⟩) hzx).trans cx1; go_light; go_simp; rfl
     simp only [Pu]
     refine r_val (v := ?_) (by kernel_rfl) (fun W hW => ?_) ?_; rotate_left; (focus go_light; go_simp; rfl); simp only [Pu]
     refine r_val (v := ?qv86) (by kernel_rfl) (fun W hW => ?qh86) ?qr86
     case qh86 => have g := (Below.cell hW (p := ⟨w.heap.size + 1, 0, none⟩) hzy).trans cy0; go_light; go_simp; rfl
     simp only [Pu]
     refine r_val (v := ?_) (by kernel_rfl) (fun W hW => ?_) ?_; rotate_left; (focus go_light; go_simp; rfl); simp only [Pu]
     refine r_val (v := ?qv88) (by kernel_rfl) (fun W hW => ?qh88) ?qr88
     case qh88 => have g := (Below.cell hW (p := ⟨w.heap.size, 0, none⟩) hzx).trans cx0; go_light; go_simp; rfl
     simp only [Pu]
     iterate 4 (refine r_val (v := ?_) (by kernel_rfl) (fun W hW => ?_) ?_; rotate_left; (focus go_light; go_simp; rfl); simp only [Pu])
     refine r_nil ?_
     intro w8 hw8
     go_wp2
     go_ret
     exact ⟨ret_b (by rw [HF.out, e1, h2, e3, e4]; rfl), HG.out.trans hw8⟩
   ·
    have e3 : decide (X1 * X2 < Y1 * Y2) = false := decide_eq_false h3
    clear q1 q3
    go_enter Tryz.func60, Tryz.ntmps60
    go_upto_region 1 with (fail)
    rw [← HV.out]
    clear HV
    refine region_R (by kernel_rfl) (by kernel_rfl) ?_
    refine r_val (v := ?_) (by kernel_rfl) (fun W hW => ?_) ?_; rotate_left; (focus go_light; go_simp; rfl); simp only [Pu]
    refine r_val (v := ?qv94) (by kernel_rfl) (fun W hW => ?qh94) ?qr94
    case qh94 => have g := (Below.cell hW (p := ⟨w.heap.size + 1, 0, none⟩) hzy).trans cy0; go_light; go_simp; rfl
    simp only [Pu]
    refine r_val (v := ?_) (by kernel_rfl) (fun W hW => ?_) ?_; rotate_left; (focus go_light; go_simp; rfl); simp only [Pu]
    refine r_val (v := ?qv96) (by kernel_rfl) (fun W hW => ?qh96) ?qr96
    case qh96 => have g := (Below.cell hW (p := ⟨w.heap.size, 0, none⟩) hzx).trans cx0; go_light; go_simp; rfl
    simp only [Pu]
    iterate 3 (refine r_val (v := ?_) (by kernel_rfl) (fun W hW => ?_) ?_; rotate_left; (focus go_light; go_simp; rfl); simp only [Pu])
    refine r_val (v := ?qv100) (by kernel_rfl) (fun W hW => ?qh100) ?qr100
    case qh100 => have g := (Below.cell hW (p := ⟨w.heap.size + 1, 0, none⟩) hzy).trans cy0; go_light; go_simp; rfl
    simp only [Pu]
    refine r_val (v := ?_) (by kernel_rfl) (fun W hW => ?_) ?_; rotate_left; (focus go_light; go_simp; rfl); simp only [Pu]
    refine r_val (v := ?qv102) (by kernel_rfl) (fun W hW => ?qh102) ?qr102
    case qh102 => have g := (Below.cell hW (p := ⟨w.heap.size, 0, none⟩) hzx).trans cx0; go_light; go_simp; rfl
    simp only [Pu]
    iterate 5 (refine r_val (v := ?_) (by kernel_rfl) (fun W hW => ?_) ?_; rotate_left; (focus go_light; go_simp; rfl); simp only [Pu])
    refine r_val (v := ?qv108) (by kernel_rfl) (fun W hW => ?qh108) ?qr108
    case qh108 => have g := (Below.cell hW (p := ⟨w.heap.size + 1, 0, none⟩) hzy).trans cy0; go_light; go_simp; rfl
    simp only [Pu]
    refine r_val (v := ?_) (by kernel_rfl) (fun W hW => ?_) ?_; rotate_left; (focus go_light; go_simp; rfl); simp only [Pu]
    refine r_val (v := ?qv110) (by kernel_rfl) (fun W hW => ?qh110) ?qr110
    case qh110 => have g := (Below.cell hW (p := ⟨w.heap.size + 1, 1, none⟩) hzy).trans cy1; go_light; go_simp; rfl
    simp only [Pu]
    iterate 2 (refine r_val (v := ?_) (by kernel_rfl) (fun W hW => ?_) ?_; rotate_left; (focus go_light; go_simp; rfl); simp only [Pu])
    refine r_val (v := ?qv113) (by kernel_rfl) (fun W hW => ?qh113) ?qr113
    case qh113 => have g := (Below.cell hW (p := ⟨w.heap.size, 0, none⟩) hzx).trans cx0; go_light; go_simp; rfl
    simp only [Pu]
    refine r_val (v := ?_) (by kernel_rfl) (fun W hW => ?_) ?_; rotate_left; (focus go_light; go_simp; rfl); simp only [Pu]
    refine r_val (v := ?qv115) (by kernel_rfl) (fun W hW => ?qh115) ?qr115
    case qh115 => have g := (Below.cell hW (p := ⟨w.heap.size, 1, none⟩) hzx).trans cx1; go_light; go_simp; rfl
    simp only [Pu]
    iterate 4 (refine r_val (v := ?_) (by kernel_rfl) (fun W hW => ?_) ?_; rotate_left; (focus go_light; go_simp; rfl); simp only [Pu])
    iterate 8 (refine r_skip (by kernel_rfl) ?_; simp only [Pu])
    iterate 2 (refine r_val (v := ?_) (by kernel_rfl) (fun W hW => ?_) ?_; rotate_left; (focus go_light; go_simp; rfl); simp only [Pu])
    refine r_nil ?_
    intro w8 hw8
    go_wp2
    go_ret
    exact ⟨ret_b (by rw [HF.out, e1, h2, e3]; rfl), HG.out.trans hw8⟩
 ·
  have e1 : decide (X1 < Y1) = false := decide_eq_false h1
  clear q1 q2 q3 hm1 hm2
  go_enter Tryz.func60, Tryz.ntmps60
  go_upto_region 1 with (fail)
  rw [← HV.out]
  clear HV
  refine region_R (by kernel_rfl) (by kernel_rfl) ?_
  refine r_val (v := ?_) (by kernel_rfl) (fun W hW => ?_) ?_; rotate_left; (focus go_light; go_simp; rfl); simp only [Pu]
  refine r_val (v := ?qv123) (by kernel_rfl) (fun W hW => ?qh123) ?qr123
  case qh123 => have g := (Below.cell hW (p := ⟨w.heap.size + 1, 0, none⟩) hzy).trans cy0; go_light; go_simp; rfl
  simp only [Pu]
  refine r_val (v := ?_) (by kernel_rfl) (fun W hW => ?_) ?_; rotate_left; (focus go_light; go_simp; rfl); simp only [Pu]
  refine r_val (v := ?qv125) (by kernel_rfl) (fun W hW => ?qh125) ?qr125
  case qh125 => have g := (Below.cell hW (p := ⟨w.heap.size, 0, none⟩) hzx).trans cx0; go_light; go_simp; rfl
  simp only [Pu]
  iterate 2 (refine r_val (v := ?_) (by kernel_rfl) (fun W hW => ?_) ?_; rotate_left; (focus go_light; go_simp; rfl); simp only [Pu])
  iterate 6 (refine r_skip (by kernel_rfl) ?_; simp only [Pu])
  iterate 2 (refine r_val (v := ?_) (by kernel_rfl) (fun W hW => ?_) ?_; rotate_left; (focus go_light; go_simp; rfl); simp only [Pu])
  iterate 11 (refine r_skip (by kernel_rfl) ?_; simp only [Pu])
  iterate 2 (refine r_val (v := ?_) (by kernel_rfl) (fun W hW => ?_) ?_; rotate_left; (focus go_light; go_simp; rfl); simp only [Pu])
  iterate 8 (refine r_skip (by kernel_rfl) ?_; simp only [Pu])
  iterate 2 (refine r_val (v := ?_) (by kernel_rfl) (fun W hW => ?_) ?_; rotate_left; (focus go_light; go_simp; rfl); simp only [Pu])
  refine r_nil ?_
  intro w8 hw8
  go_wp2
  go_ret
  exact ⟨ret_b (by rw [HF.out, e1]; rfl), HG.out.trans hw8⟩
set_option maxRecDepth 100000 in
set_option maxHeartbeats 6400000 in
theorem ref_side (x y : Nat × Nat) (hx : oneOk x = true) (hy : oneOk y = true) (w : World) : Calls Tryz.prog 100 #[.agg #[.int .i64 x.1, .int .i64 x.2], .agg #[.int .i64 y.1, .int .i64 y.2]] w fun e w' => e = .returned (.bool (fitsS x y)) ∧ Gr w w' := by
 obtain ⟨x1, x2⟩ := x
 obtain ⟨y1, y2⟩ := y
 obtain ⟨hx1, hx2, hx3, hx4⟩ := oneOk_iff.1 hx
 obtain ⟨hy1, hy2, hy3, hy4⟩ := oneOk_iff.1 hy
 simp only at hx1 hx2 hx3 hx4 hy1 hy2 hy3 hy4 ⊢
 obtain ⟨F, hF⟩ : ∃ F, F = fitsS (x1, x2) (y1, y2) := ⟨_, rfl⟩
 rw [← hF]
 have hFF := fits_int (x1 : Int) x2 y1 y2 (by omega) (by omega) (by omega) (by omega)
 have hm1 := prod_small (x1 : Int) x2 (by omega) (by omega) (by omega) (by omega)
 have hm2 := prod_small (y1 : Int) y2 (by omega) (by omega) (by omega) (by omega)
 have hfi : fitsS (x1, x2) (y1, y2) = (decide ((x1 : Int) < y1) && (((y1 : Int) % x1) == 0) && decide ((x1 : Int) * x2 < (y1 : Int) * y2) && decide ((y1 : Int) / x1 ≤ x2)) := fits_eq _ _ _ _
 rw [hfi] at hF
 have HF := Lib.hid hF
 obtain ⟨X1, hX1⟩ : ∃ X : Int, X = x1 := ⟨_, rfl⟩
 obtain ⟨X2, hX2⟩ : ∃ X : Int, X = x2 := ⟨_, rfl⟩
 obtain ⟨Y1, hY1⟩ : ∃ X : Int, X = y1 := ⟨_, rfl⟩
 obtain ⟨Y2, hY2⟩ : ∃ X : Int, X = y2 := ⟨_, rfl⟩
 have a1 : 1 ≤ X1 ∧ X1 ≤ 16777216 := by omega
 have a2 : 1 ≤ X2 ∧ X2 ≤ 16777216 := by omega
 have a3 : 1 ≤ Y1 ∧ Y1 ≤ 16777216 := by omega
 have a4 : 1 ≤ Y2 ∧ Y2 ≤ 16777216 := by omega
 simp only [← hX1, ← hX2, ← hY1, ← hY2] at HF hFF hm1 hm2 ⊢
 clear hX1 hX2 hY1 hY2 hF hfi hx hy hx1 hx2 hx3 hx4 hy1 hy2 hy3 hy4
 obtain ⟨V, hV⟩ : ∃ V, V = (w.alloc (.cells #[.int .i64 X1, .int .i64 X2] 34)).alloc (.cells #[.int .i64 Y1, .int .i64 Y2] 34) := ⟨_, rfl⟩
 have gV : Gr w V := by rw [hV]; exact Gr.alloc (Gr.alloc (Gr.refl w) _) _
 have hzx : w.heap.size < V.heap.size := by rw [hV]; simp; omega
 have hzy : w.heap.size + 1 < V.heap.size := by rw [hV]; simp
 have cx0 : V.cell? ⟨w.heap.size, 0, none⟩ = some (.int .i64 X1) := by rw [hV]; go_simp
 have cx1 : V.cell? ⟨w.heap.size, 1, none⟩ = some (.int .i64 X2) := by rw [hV]; go_simp
 have cy0 : V.cell? ⟨w.heap.size + 1, 0, none⟩ = some (.int .i64 Y1) := by rw [hV]; go_simp
 have cy1 : V.cell? ⟨w.heap.size + 1, 1, none⟩ = some (.int .i64 Y2) := by rw [hV]; go_simp
 have HV := Lib.hid hV
 have HG := Lib.hid gV
 clear hV gV
 obtain ⟨q1, q2, q3, q4⟩ := hFF
 by_cases h1 : X1 < Y1
 ·
  have e1 : decide (X1 < Y1) = true := decide_eq_true h1
  cases h2 : (Y1 % X1 == 0)
  ·
   clear q1 q3 hm1 hm2
   go_enter Tryz.func100, Tryz.ntmps100
   go_upto_region 1 with (fail)
   rw [← HV.out]
   clear HV
   refine region_R (by kernel_rfl) (by kernel_rfl) ?_
   refine r_val (v := ?_) (by kernel_rfl) (fun W hW => ?_) ?_; rotate_left; (focus go_light; go_simp; rfl); simp only [Pu]
   refine r_val (v := ?qv135) (by kernel_rfl) (fun W hW => ?qh135) ?qr135
   case qh135 => have g := (Below.cell hW (p := ⟨w.heap.size + 1, 0, none⟩) hzy).trans cy0; go_light; go_simp; rfl
   simp only [Pu]
   refine r_val (v := ?_) (by kernel_rfl) (fun W hW => ?_) ?_; rotate_left; (focus go_light; go_simp; rfl); simp only [Pu]
   refine r_val (v := ?qv137) (by kernel_rfl) (fun W hW => ?qh137) ?qr137
   case qh137 => have g := (Below.cell hW (p := ⟨w.heap.size, 0, none⟩) hzx).trans cx0; go_light; go_simp; rfl
   simp only [Pu]
   iterate 3 (refine r_val (v := ?_) (by kernel_rfl) (fun W hW => ?_) ?_; rotate_left; (focus go_light; go_simp; rfl); simp only [Pu])
   refine r_val (v := ?qv141) (by kernel_rfl) (fun W hW => ?qh141) ?qr141
   case qh141 => have g := (Below.cell hW (p := ⟨w.heap.size + 1, 0, none⟩) hzy).trans cy0; go_light; go_simp; rfl
   simp only [Pu]
   refine r_val (v := ?_) (by kernel_rfl) (fun W hW => ?_) ?_; rotate_left; (focus go_light; go_simp; rfl); simp only [Pu]
   refine r_val (v := ?qv143) (by kernel_rfl) (fun W hW => ?qh143) ?qr143
   case qh143 => have g := (Below.cell hW (p := ⟨w.heap.size, 0, none⟩) hzx).trans cx0; go_light; go_simp; rfl
   simp only [Pu]
   iterate 4 (refine r_val (v := ?_) (by kernel_rfl) (fun W hW => ?_) ?_; rotate_left; (focus go_light; go_simp; rfl); simp only [Pu])
   iterate 11 (refine r_skip (by kernel_rfl) ?_; simp only [Pu])
   iterate 2 (refine r_val (v := ?_) (by kernel_rfl) (fun W hW => ?_) ?_; rotate_left; (focus go_light; go_simp; rfl); simp only [Pu])
   iterate 8 (refine r_skip (by kernel_rfl) ?_; simp only [Pu])
   iterate 2 (refine r_val (v := ?_) (by kernel_rfl) (fun W hW => ?_) ?_; rotate_left; (focus go_light; go_simp; rfl); simp only [Pu])
   refine r_nil ?_
   intro w8 hw8
   go_wp2
   go_ret
   exact ⟨ret_b (by rw [HF.out, e1, h2]; rfl), HG.out.trans hw8⟩
  ·
   by_cases h3 : X1 * X2 < Y1 * Y2
   ·
    have e3 : decide (X1 * X2 < Y1 * Y2) = true := decide_eq_true h3
    by_cases h4 : Y1 / X1 ≤ X2
    ·
     have e4 : decide (Y1 / X1 ≤ X2) = true := decide_eq_true h4
     go_enter Tryz.func100, Tryz.ntmps100
     go_upto_region 1 with (fail)
     rw [← HV.out]
     clear HV
     refine region_R (by kernel_rfl) (by kernel_rfl) ?_
     refine r_val (v := ?_) (by kernel_rfl) (fun W hW => ?_) ?_; rotate_left; (focus go_light; go_simp; rfl); simp only [Pu]
     refine r_val (v := ?qv153) (by kernel_rfl) (fun W hW => ?qh153) ?qr153
     case qh153 => have g := (Below.cell hW (p := ⟨w.heap.size + 1, 0, none⟩) hzy).trans cy0; go_light; go_simp; rfl
     simp only [Pu]
     refine r_val (v := ?_) (by kernel_rfl) (fun W hW => ?_) ?_; rotate_left; (focus go_light; go_simp; rfl); simp only [Pu]
     refine r_val (v := ?qv155) (by kernel_rfl) (fun W hW => ?qh155) ?qr155
     case qh155 => have g := (Below.cell hW (p := ⟨w.heap.size, 0, none⟩) hzx).trans cx0; go_light; go_simp; rfl
     simp only [Pu]
     iterate 3 (refine r_val (v := ?_) (by kernel_rfl) (fun W hW => ?_) ?_; rotate_left; (focus go_light; go_simp; rfl); simp only [Pu])
     refine r_val (v := ?qv159) (by kernel_rfl) (fun W hW => ?qh159) ?qr159
     case qh159 => have g := (Below.cell hW (p := ⟨w.heap.size + 1, 0, none⟩) hzy).trans cy0; go_light; go_simp; rfl
     simp only [Pu]
     refine r_val (v := ?_) (by kernel_rfl) (fun W hW => ?_) ?_; rotate_left; (focus go_light; go_simp; rfl); simp only [Pu]
     refine r_val (v := ?qv161) (by kernel_rfl) (fun W hW => ?qh161) ?qr161
     case qh161 => have g := (Below.cell hW (p := ⟨w.heap.size, 0, none⟩) hzx).trans cx0; go_light; go_simp; rfl
     simp only [Pu]
     iterate 5 (refine r_val (v := ?_) (by kernel_rfl) (fun W hW => ?_) ?_; rotate_left; (focus go_light; go_simp; rfl); simp only [Pu])
     refine r_val (v := ?qv167) (by kernel_rfl) (fun W hW => ?qh167) ?qr167
     case qh167 => have g := (Below.cell hW (p := ⟨w.heap.size + 1, 0, none⟩) hzy).trans cy0; go_light; go_simp; rfl
     simp only [Pu]
     refine r_val (v := ?_) (by kernel_rfl) (fun W hW => ?_) ?_; rotate_left; (focus go_light; go_simp; rfl); simp only [Pu]
     refine r_val (v := ?qv169) (by kernel_rfl) (fun W hW => ?qh169) ?qr169
     case qh169 => have g := (Below.cell hW (p := ⟨w.heap.size + 1, 1, none⟩) hzy).trans cy1; go_light; go_simp; rfl
     simp only [Pu]
     iterate 2 (refine r_val (v := ?_) (by kernel_rfl) (fun W hW => ?_) ?_; rotate_left; (focus go_light; go_simp; rfl); simp only [Pu])
     refine r_val (v := ?qv172) (by kernel_rfl) (fun W hW => ?qh172) ?qr172
     case qh172 => have g := (Below.cell hW (p := ⟨w.heap.size, 0, none⟩) hzx).trans cx0; go_light; go_simp; rfl
     simp only [Pu]
     refine r_val (v := ?_) (by kernel_rfl) (fun W hW => ?_) ?_; rotate_left; (focus go_light; go_simp; rfl); simp only [Pu]
     refine r_val (v := ?qv174) (by kernel_rfl) (fun W hW => ?qh174) ?qr174
     case qh174 => have g := (Below.cell hW (p := ⟨w.heap.size, 1, none⟩) hzx).trans cx1; go_light; go_simp; rfl
     simp only [Pu]
     iterate 5 (refine r_val (v := ?_) (by kernel_rfl) (fun W hW => ?_) ?_; rotate_left; (focus go_light; go_simp; rfl); simp only [Pu])
     refine r_val (v := ?qv180) (by kernel_rfl) (fun W hW => ?qh180) ?qr180
     case qh180 => have g := (Below.cell hW (p := ⟨w.heap.size, 1, none⟩) hzx).trans cx1; go_light; go_simp; rfl
     simp only [Pu]
     refine r_val (v := ?_) (by kernel_rfl) (fun W hW => ?_) ?_; rotate_left; (focus go_light; go_simp; rfl); simp only [Pu]
     refine r_val (v := ?qv182) (by kernel_rfl) (fun W hW => ?qh182) ?qr182
     case qh182 => have g := (Below.cell hW (p := ⟨w.heap.size + 1, 0, none⟩) hzy).trans cy0; go_light; go_simp; rfl
     simp only [Pu]
     refine r_val (v := ?_) (by kernel_rfl) (fun W hW => ?_) ?_; rotate_left; (focus go_light; go_simp; rfl); simp only [Pu]
     refine r_val (v := ?qv184) (by kernel_rfl) (fun W hW => ?qh184) ?qr184
     case qh184 => have g := (Below.cell hW (p := ⟨w.heap.size, 0, none⟩) hzx).trans cx0; go_light; go_simp; rfl
     simp only [Pu]
     iterate 4 (refine r_val (v := ?_) (by kernel_rfl) (fun W hW => ?_) ?_; rotate_left; (focus go_light; go_simp; rfl); simp only [Pu])
     refine r_nil ?_
     intro w8 hw8
     go_wp2
     go_ret
     exact ⟨ret_b (by rw [HF.out, e1, h2, e3, e4]; rfl), HG.out.trans hw8⟩
    ·
     have e4 : decide (Y1 / X1 ≤ X2) = false := decide_eq_false h4
     go_enter Tryz.func100, Tryz.ntmps100
     go_upto_region 1 with (fail)
     rw [← HV.out]
     clear HV
     refine region_R (by kernel_rfl) (by kernel_rfl) ?_
     refine r_val (v := ?_) (by kernel_rfl) (fun W hW => ?_) ?_; rotate_left; (focus go_light; go_simp; rfl); simp only [Pu]
     refine r_val (v := ?qv190) (by kernel_rfl) (fun W hW => ?qh190) ?qr190
     case qh190 => have g := (Below.cell hW (p := ⟨w.heap.size + 1, 0, none⟩) hzy).trans cy0; go_light; go_simp; rfl
     simp only [Pu]
     refine r_val (v := ?_) (by kernel_rfl) (fun W hW => ?_) ?_; rotate_left; (focus go_light; go_simp; rfl); simp only [Pu]
     refine r_val (v := ?qv192) (by kernel_rfl) (fun W hW => ?qh192) ?qr192
     case qh192 => have g := (Below.cell hW (p := ⟨w.heap.size, 0, none⟩) hzx).trans cx0; go_light; go_simp; rfl
     simp only [Pu]
     iterate 3 (refine r_val (v := ?_) (by kernel_rfl) (fun W hW => ?_) ?_; rotate_left; (focus go_light; go_simp; rfl); simp only [Pu])
     refine r_val (v := ?qv196) (by kernel_rfl) (fun W hW => ?qh196) ?qr196
     case qh196 => have g := (Below.cell hW (p := ⟨w.heap.size + 1, 0, none⟩) hzy).trans cy0; go_light; go_simp; rfl
     simp only [Pu]
     refine r_val (v := ?_) (by kernel_rfl) (fun W hW => ?_) ?_; rotate_left; (focus go_light; go_simp; rfl); simp only [Pu]
     refine r_val (v := ?qv198) (by kernel_rfl) (fun W hW => ?qh198) ?qr198
     case qh198 => have g := (Below.cell hW (p := ⟨w.heap.size, 0, none⟩) hzx).trans cx0; go_light; go_simp; rfl
     simp only [Pu]
     iterate 5 (refine r_val (v := ?_) (by kernel_rfl) (fun W hW => ?_) ?_; rotate_left; (focus go_light; go_simp; rfl); simp only [Pu])
     refine r_val (v := ?qv204) (by kernel_rfl) (fun W hW => ?qh204) ?qr204
     case qh204 => have g := (Below.cell hW (p := ⟨w.heap.size + 1, 0, none⟩) hzy).trans cy0; go_light; go_simp; rfl
     simp only [Pu]
     refine r_val (v := ?_) (by kernel_rfl) (fun W hW => ?_) ?_; rotate_left; (focus go_light; go_simp; rfl); simp only [Pu]
     refine r_val (v := ?qv206) (by kernel_rfl) (fun W hW => ?qh206) ?qr206
     case qh206 => have g := (Below.cell hW (p := ⟨w.heap.size + 1, 1, none⟩) hzy).trans cy1; go_light; go_simp; rfl
     simp only [Pu]
     iterate 2 (refine r_val (v := ?_) (by kernel_rfl) (fun W hW => ?_) ?_; rotate_left; (focus go_light; go_simp; rfl); simp only [Pu])
     refine r_val (v := ?qv209) (by kernel_rfl) (fun W hW => ?qh209) ?qr209
     case qh209 => have g := (Below.cell hW (p := ⟨w.heap.size, 0, none⟩) hzx).trans cx0; go_light; go_simp; rfl
     simp only [Pu]
     refine r_val (v := ?_) (by kernel_rfl) (fun W hW => ?_) ?_; rotate_left; (focus go_light; go_simp; rfl); simp only [Pu]
     refine r_val (v := ?qv211) (by kernel_rfl) (fun W hW => ?qh211) ?qr211
     case qh211 => have g := (Below.cell hW (p := ⟨w.heap.size, 1, none⟩) hzx).trans cx1; go_light; go_simp; rfl
     simp only [Pu]
     iterate 5 (refine r_val (v := ?_) (by kernel_rfl) (fun W hW => ?_) ?_; rotate_left; (focus go_light; go_simp; rfl); simp only [Pu])
     refine r_val (v := ?qv217) (by kernel_rfl) (fun W hW => ?qh217) ?qr217
     case qh217 => have g := (Below.cell hW (p := ⟨w.heap.size, 1, none⟩) hzx).trans cx1; go_light; go_simp; rfl
     simp only [Pu]
     refine r_val (v := ?_) (by kernel_rfl) (fun W hW => ?_) ?_; rotate_left; (focus go_light; go_simp; rfl); simp only [Pu]
     refine r_val (v := ?qv219) (by kernel_rfl) (fun W hW => ?qh219) ?qr219
     case qh219 => have g := (Below.cell hW (p := ⟨w.heap.size + 1, 0, none⟩) hzy).trans cy0; go_light; go_simp; rfl
     simp only [Pu]
     refine r_val (v := ?_) (by kernel_rfl) (fun W hW => ?_) ?_; rotate_left; (focus go_light; go_simp; rfl); simp only [Pu]
     refine r_val (v := ?qv221) (by kernel_rfl) (fun W hW => ?qh221) ?qr221
     case qh221 => have g := (Below.cell hW (p := ⟨w.heap.size, 0, none⟩) hzx).trans cx0; go_light; go_simp; rfl
     simp only [Pu]
     iterate 4 (refine r_val (v := ?_) (by kernel_rfl) (fun W hW => ?_) ?_; rotate_left; (focus go_light; go_simp; rfl); simp only [Pu])
     refine r_nil ?_
     intro w8 hw8
     go_wp2
     go_ret
     exact ⟨ret_b (by rw [HF.out, e1, h2, e3, e4]; rfl), HG.out.trans hw8⟩
   ·
    have e3 : decide (X1 * X2 < Y1 * Y2) = false := decide_eq_false h3
    clear q1 q3
    go_enter Tryz.func100, Tryz.ntmps100
    go_upto_region 1 with (fail)
    rw [← HV.out]
    clear HV
    refine region_R (by kernel_rfl) (by kernel_rfl) ?_
    refine r_val (v := ?_) (by kernel_rfl) (fun W hW => ?_) ?_; rotate_left; (focus go_light; go_simp; rfl); simp only [Pu]
    refine r_val (v := ?qv227) (by kernel_rfl) (fun W hW => ?qh227) ?qr227
    case qh227 => have g := (Below.cell hW (p := ⟨w.heap.size + 1, 0, none⟩) hzy).trans cy0; go_light; go_simp; rfl
    simp only [Pu]
    refine r_val (v := ?_) (by kernel_rfl) (fun W hW => ?_) ?_; rotate_left; (focus go_light; go_simp; rfl); simp only [Pu]
    refine r_val (v := ?qv229) (by kernel_rfl) (fun W hW => ?qh229) ?qr229
    case qh229 => have g := (Below.cell hW (p := ⟨w.heap.size, 0, none⟩) hzx).trans cx0; go_light; go_simp; rfl
    simp only [Pu]
    iterate 3 (refine r_val (v := ?_) (by kernel_rfl) (fun W hW => ?_) ?_; rotate_left; (focus go_light; go_simp; rfl); simp only [Pu])
    refine r_val (v := ?qv233) (by kernel_rfl) (fun W hW => ?qh233) ?qr233
    case qh233 => have g := (Below.cell hW (p := ⟨w.heap.size + 1, 0, none⟩) hzy).trans cy0; go_light; go_simp; rfl
    simp only [Pu]
    refine r_val (v := ?_) (by kernel_rfl) (fun W hW => ?_) ?_; rotate_left; (focus go_light; go_simp; rfl); simp only [Pu]
    refine r_val (v := ?qv235) (by kernel_rfl) (fun W hW => ?qh235) ?qr235
    case qh235 => have g := (Below.cell hW (p := ⟨w.heap.size, 0, none⟩) hzx).trans cx0; go_light; go_simp; rfl
    simp only [Pu]
    iterate 5 (refine r_val (v := ?_) (by kernel_rfl) (fun W hW => ?_) ?_; rotate_left; (focus go_light; go_simp; rfl); simp only [Pu])
    refine r_val (v := ?qv241) (by kernel_rfl) (fun W hW => ?qh241) ?qr241
    case qh241 => have g := (Below.cell hW (p := ⟨w.heap.size + 1, 0, none⟩) hzy).trans cy0; go_light; go_simp; rfl
    simp only [Pu]
    refine r_val (v := ?_) (by kernel_rfl) (fun W hW => ?_) ?_; rotate_left; (focus go_light; go_simp; rfl); simp only [Pu]
    refine r_val (v := ?qv243) (by kernel_rfl) (fun W hW => ?qh243) ?qr243
    case qh243 => have g := (Below.cell hW (p := ⟨w.heap.size + 1, 1, none⟩) hzy).trans cy1; go_light; go_simp; rfl
    simp only [Pu]
    iterate 2 (refine r_val (v := ?_) (by kernel_rfl) (fun W hW => ?_) ?_; rotate_left; (focus go_light; go_simp; rfl); simp only [Pu])
    refine r_val (v := ?qv246) (by kernel_rfl) (fun W hW => ?qh246) ?qr246
    case qh246 => have g := (Below.cell hW (p := ⟨w.heap.size, 0, none⟩) hzx).trans cx0; go_light; go_simp; rfl
    simp only [Pu]
    refine r_val (v := ?_) (by kernel_rfl) (fun W hW => ?_) ?_; rotate_left; (focus go_light; go_simp; rfl); simp only [Pu]
    refine r_val (v := ?qv248) (by kernel_rfl) (fun W hW => ?qh248) ?qr248
    case qh248 => have g := (Below.cell hW (p := ⟨w.heap.size, 1, none⟩) hzx).trans cx1; go_light; go_simp; rfl
    simp only [Pu]
    iterate 4 (refine r_val (v := ?_) (by kernel_rfl) (fun W hW => ?_) ?_; rotate_left; (focus go_light; go_simp; rfl); simp only [Pu])
    iterate 8 (refine r_skip (by kernel_rfl) ?_; simp only [Pu])
    iterate 2 (refine r_val (v := ?_) (by kernel_rfl) (fun W hW => ?_) ?_; rotate_left; (focus go_light; go_simp; rfl); simp only [Pu])
    refine r_nil ?_
    intro w8 hw8
    go_wp2
    go_ret
    exact ⟨ret_b (by rw [HF.out, e1, h2, e3]; rfl), HG.out.trans hw8⟩
 ·
  have e1 : decide (X1 < Y1) = false := decide_eq_false h1
  clear q1 q2 q3 hm1 hm2
  go_enter Tryz.func100, Tryz.ntmps100
  go_upto_region 1 with (fail)
  rw [← HV.out]
  clear HV
  refine region_R (by kernel_rfl) (by kernel_rfl) ?_
  refine r_val (v := ?_) (by kernel_rfl) (fun W hW => ?_) ?_; rotate_left; (focus go_light; go_simp; rfl); simp only [Pu]
  refine r_val (v := ?qv256) (by kernel_rfl) (fun W hW => ?qh256) ?qr256
  case qh256 => have g := (Below.cell hW (p := ⟨w.heap.size + 1, 0, none⟩) hzy).trans cy0; go_light; go_simp; rfl
  simp only [Pu]
  refine r_val (v := ?_) (by kernel_rfl) (fun W hW => ?_) ?_; rotate_left; (focus go_light; go_simp; rfl); simp only [Pu]
  refine r_val (v := ?qv258) (by kernel_rfl) (fun W hW => ?qh258) ?qr258
  case qh258 => have g := (Below.cell hW (p := ⟨w.heap.size, 0, none⟩) hzx).trans cx0; go_light; go_simp; rfl
  simp only [Pu]
  iterate 2 (refine r_val (v := ?_) (by kernel_rfl) (fun W hW => ?_) ?_; rotate_left; (focus go_light; go_simp; rfl); simp only [Pu])
  iterate 6 (refine r_skip (by kernel_rfl) ?_; simp only [Pu])
  iterate 2 (refine r_val (v := ?_) (by kernel_rfl) (fun W hW => ?_) ?_; rotate_left; (focus go_light; go_simp; rfl); simp only [Pu])
  iterate 11 (refine r_skip (by kernel_rfl) ?_; simp only [Pu])
  iterate 2 (refine r_val (v := ?_) (by kernel_rfl) (fun W hW => ?_) ?_; rotate_left; (focus go_light; go_simp; rfl); simp only [Pu])
  iterate 8 (refine r_skip (by kernel_rfl) ?_; simp only [Pu])
  iterate 2 (refine r_val (v := ?_) (by kernel_rfl) (fun W hW => ?_) ?_; rotate_left; (focus go_light; go_simp; rfl); simp only [Pu])
  refine r_nil ?_
  intro w8 hw8
  go_wp2
  go_ret
  exact ⟨ret_b (by rw [HF.out, e1]; rfl), HG.out.trans hw8⟩
end Go.Proofs.YtjapddfnpmlifaaGreatDoor
