/- May of the reference. -/
import Derived.Test.YtjapddfnpmlifaaGreatDoorRunRuSize
namespace Go.Proofs.YtjapddfnpmlifaaGreatDoor
set_option linter.unusedVariables false
set_option linter.unusedSimpArgs false
open Go.RowKit
set_option maxRecDepth 100000 in
set_option maxHeartbeats 6400000 in
theorem ref_may (A : Option Addr) (c : Nat) (l : List (Nat × Nat)) (hn : ∀ a ∈ l, a.1 ≤ maxN ∧ a.2 ≤ maxN) (hll : l.length ≤ 400) (w : World) (hr : Ra w A l) : Calls Tryz.prog 66 #[.agg #[.int .i64 1, .int .i64 0, .slice A l.length c]] w fun e w' => e = .returned (.bool (mayS l)) ∧ Gr w w' := by
 obtain ⟨V, hV⟩ : ∃ V, V = w.alloc (.cells #[.int .i64 1, .int .i64 0, .slice A l.length c] 29) := ⟨_, rfl⟩
 have gV : Gr w V := by rw [hV]; exact Gr.alloc (Gr.refl w) _
 have hz : w.heap.size < V.heap.size := by rw [hV]; simp
 have c0 : V.cell? ⟨w.heap.size, 0, none⟩ = some (.int .i64 1) := by rw [hV]; go_simp
 have c1 : V.cell? ⟨w.heap.size, 1, none⟩ = some (.int .i64 0) := by rw [hV]; go_simp
 have c2 : V.cell? ⟨w.heap.size, 2, none⟩ = some (.slice A l.length c) := by rw [hV]; go_simp
 have HV := Lib.hid hV
 have HG := Lib.hid gV
 have HR := Lib.hid (hr.gr gV)
 have HN := Lib.hid hn
 clear hV gV hr hn
 rcases Nat.eq_zero_or_pos l.length with h0 | h0
 ·
  have hM := mayS_len (.inl h0)
  have HM := Lib.hid hM
  clear hM
  have h1 : (l.length : Int) < 1 := by omega
  clear h0
  go_enter Tryz.func66, Tryz.ntmps66
  go_upto_region 1 with (fail)
  rw [← HV.out]
  clear HV
  go_wp2
  go_ret
  exact ⟨by rw [HM.out]; rfl, HG.out⟩
 rcases Nat.lt_or_ge 8 l.length with h8 | h8
 ·
  have hM := mayS_len (.inr h8)
  have HM := Lib.hid hM
  clear hM
  have h1 : ¬ (l.length : Int) < 1 := by omega
  have h2 : (8 : Int) < (l.length : Int) := by omega
  clear h0 h8
  go_enter Tryz.func66, Tryz.ntmps66
  go_upto_region 1 with (fail)
  rw [← HV.out]
  clear HV
  go_wp2
  go_ret
  exact ⟨by rw [HM.out]; rfl, HG.out⟩
 have h1 : ¬ (l.length : Int) < 1 := by omega
 have h2 : ¬ (8 : Int) < (l.length : Int) := by omega
 have H8 := Lib.hid (And.intro h0 h8)
 clear h0 h8
 go_enter Tryz.func66, Tryz.ntmps66
 go_upto_region 1 with (fail)
 rw [← HV.out]
 clear HV
 go_upto_region 3 with (fail)
 go_wp2
 go_loopw [4, 3] (fun i n wr => ∃ k : Nat, k ≤ l.length ∧ i = .int .i64 k ∧ n = .int .i64 (sizeS (l.take k) : Nat) ∧ sizeS (l.take k) ≤ 1048576 ∧ (∀ j, j < k → stepOk l j = true) ∧ Gr V wr) (fun i _ _ => l.length - (intOf i).toNat)
 case atStart => exact ⟨0, Nat.zero_le _, rfl, rfl, by simp [sizeS], fun j hj => absurd hj (Nat.not_lt_zero _), Gr.refl _⟩
 case round =>
  obtain ⟨k, hk, rfl, rfl, hsz, hall, hgr⟩ := hrel
  have Hall := Lib.hid hall
  have Hgr := Lib.hid hgr
  have hzw : w.heap.size < wr.heap.size := Nat.lt_of_lt_of_le hz hgr.size
  have c2' := (Below.cell hgr (p := ⟨w.heap.size, 2, none⟩) hz).trans c2
  clear hall c2
  have c2 := c2'
  clear c2'
  by_cases hlt : k < l.length
  ·
   have hlt' : (k : Int) < (l.length : Int) := by omega
   obtain ⟨b, rfl, hb, hc⟩ := (HR.out.gr hgr) (by omega)
   obtain ⟨d0, d1⟩ := hc k hlt
   have Hc := Lib.hid hc
   have hn := HN.out l[k] (List.getElem_mem hlt)
   have hst := stepOk_at hlt
   have hgr0 := Hgr
   clear hc hgr
   obtain ⟨x1, hx1⟩ : ∃ x, x = l[k].1 := ⟨_, rfl⟩
   obtain ⟨x2, hx2⟩ : ∃ x, x = l[k].2 := ⟨_, rfl⟩
   have hx : l[k] = (x1, x2) := by rw [hx1, hx2]
   rw [← hx1] at d0 hn
   rw [← hx2] at d1 hn
   rw [hx] at hst
   have Hst := Lib.hid (And.intro hx hst)
   have hn1 : (x1 : Int) ≤ 4611686018427387904 := by have := hn.1; unfold maxN at this; omega
   have hn2 : (x2 : Int) ≤ 4611686018427387904 := by have := hn.2; unfold maxN at this; omega
   clear hx1 hx2 hx hst hn
   go_upto_region 8 with (fail)
   obtain ⟨wB, hwB⟩ : ∃ wB, wB = wr.alloc (.cells #[.int .i64 x1, .int .i64 x2] 34) := ⟨_, rfl⟩
   have gB : Gr wr wB := by rw [hwB]; exact Gr.alloc (Gr.refl wr) _
   have hz4 : wr.heap.size < wB.heap.size := by rw [hwB]; simp
   have e0 : wB.cell? ⟨wr.heap.size, 0, none⟩ = some (.int .i64 x1) := by rw [hwB]; go_simp
   have e1 : wB.cell? ⟨wr.heap.size, 1, none⟩ = some (.int .i64 x2) := by rw [hwB]; go_simp
   rw [← hwB]
   have hbw : b < wB.heap.size := Nat.lt_of_lt_of_le hb gB.size
   have c2' := (Below.cell gB (p := ⟨w.heap.size, 2, none⟩) hzw).trans c2
   have hzw' := Nat.lt_of_lt_of_le hzw gB.size
   have Hc' : Hid (∀ j (h : j < l.length), wB.cell? ⟨b, j * 2, none⟩ = some (.int .i64 (l[j].1 : Nat)) ∧ wB.cell? ⟨b, j * 2 + 1, none⟩ = some (.int .i64 (l[j].2 : Nat))) := Lib.hid fun j h => ⟨(Below.cell gB (p := ⟨b, j * 2, none⟩) hb).trans (Hc.out j h).1, (Below.cell gB (p := ⟨b, j * 2 + 1, none⟩) hb).trans (Hc.out j h).2⟩
   have HgB := Lib.hid (hgr0.out.trans gB)
   generalize wr.heap.size = B4 at hz4 e0 e1 ⊢
   clear hwB c0 c1 c2 hzw d0 d1 hb Hc gB
   have c2 := c2'
   have hzw := hzw'
   clear c2' hzw'
   by_cases m1 : x1 < 1
   ·
    have HM : Hid (mayS l = false) := Lib.hid (mayS_step hlt (by rw [Hst.out.2, one_no (.inl m1)]; rfl))
    have t1 : (x1 : Int) < 1 := by omega
    have t2 : decide ((x1 : Int) < 1) = true := decide_eq_true t1
    clear Hst hlt m1
    refine region_R (by kernel_rfl) (by kernel_rfl) ?_
    refine r_val (v := ?_) (by kernel_rfl) (fun W hW => ?_) ?_; rotate_left; (focus go_light; go_simp; rfl); simp only [Pu]
    refine r_val (v := ?qv154) (by kernel_rfl) (fun W hW => ?qh154) ?qr154
    case qh154 => have g := (Below.cell hW (p := ⟨B4, 0, none⟩) hz4).trans e0; go_light; go_simp; rfl
    simp only [Pu]
    iterate 2 (refine r_val (v := ?_) (by kernel_rfl) (fun W hW => ?_) ?_; rotate_left; (focus go_light; go_simp; rfl); simp only [Pu])
    iterate 3 (refine r_skip (by kernel_rfl) ?_; simp only [Pu])
    iterate 2 (refine r_val (v := ?_) (by kernel_rfl) (fun W hW => ?_) ?_; rotate_left; (focus go_light; go_simp; rfl); simp only [Pu])
    iterate 3 (refine r_skip (by kernel_rfl) ?_; simp only [Pu])
    iterate 2 (refine r_val (v := ?_) (by kernel_rfl) (fun W hW => ?_) ?_; rotate_left; (focus go_light; go_simp; rfl); simp only [Pu])
    iterate 3 (refine r_skip (by kernel_rfl) ?_; simp only [Pu])
    iterate 2 (refine r_val (v := ?_) (by kernel_rfl) (fun W hW => ?_) ?_; rotate_left; (focus go_light; go_simp; rfl); simp only [Pu])
    iterate 13 (refine r_skip (by kernel_rfl) ?_; simp only [Pu])
    refine r_val (v := ?_) (by kernel_rfl) (fun W hW => ?_) ?_; rotate_left; (focus go_light; go_simp; rfl); simp only [Pu]
    refine r_nil ?_
    intro w8 hw8
    have HW9 := Lib.hid hw8
    clear hw8
    go_wp2
    go_ret
    exact ⟨by rw [HM.out]; rfl, (HG.out.trans HgB.out).trans HW9.out⟩
   by_cases m2 : 16777216 < x1
   ·
    have HM : Hid (mayS l = false) := Lib.hid (mayS_step hlt (by rw [Hst.out.2, one_no (.inr (.inl m2))]; rfl))
    have t1 : ¬ (x1 : Int) < 1 := by omega
    have t2 : (16777216 : Int) < (x1 : Int) := by omega
    have t3 : decide ((x1 : Int) < 1) = false := decide_eq_false t1
    have t4 : decide ((16777216 : Int) < (x1 : Int)) = true := decide_eq_true t2
    clear Hst hlt m1 m2
    refine region_R (by kernel_rfl) (by kernel_rfl) ?_
    refine r_val (v := ?_) (by kernel_rfl) (fun W hW => ?_) ?_; rotate_left; (focus go_light; go_simp; rfl); simp only [Pu]
    refine r_val (v := ?qv165) (by kernel_rfl) (fun W hW => ?qh165) ?qr165
    case qh165 => have g := (Below.cell hW (p := ⟨B4, 0, none⟩) hz4).trans e0; go_light; go_simp; rfl
    simp only [Pu]
    iterate 3 (refine r_val (v := ?_) (by kernel_rfl) (fun W hW => ?_) ?_; rotate_left; (focus go_light; go_simp; rfl); simp only [Pu])
    refine r_val (v := ?qv169) (by kernel_rfl) (fun W hW => ?qh169) ?qr169
    case qh169 => have g := (Below.cell hW (p := ⟨B4, 0, none⟩) hz4).trans e0; go_light; go_simp; rfl
    simp only [Pu]
    iterate 3 (refine r_val (v := ?_) (by kernel_rfl) (fun W hW => ?_) ?_; rotate_left; (focus go_light; go_simp; rfl); simp only [Pu])
    iterate 3 (refine r_skip (by kernel_rfl) ?_; simp only [Pu])
    iterate 2 (refine r_val (v := ?_) (by kernel_rfl) (fun W hW => ?_) ?_; rotate_left; (focus go_light; go_simp; rfl); simp only [Pu])
    iterate 3 (refine r_skip (by kernel_rfl) ?_; simp only [Pu])
    iterate 2 (refine r_val (v := ?_) (by kernel_rfl) (fun W hW => ?_) ?_; rotate_left; (focus go_light; go_simp; rfl); simp only [Pu])
    iterate 13 (refine r_skip (by kernel_rfl) ?_; simp only [Pu])
    refine r_val (v := ?_) (by kernel_rfl) (fun W hW => ?_) ?_; rotate_left; (focus go_light; go_simp; rfl); simp only [Pu]
    refine r_nil ?_
    intro w8 hw8
    have HW9 := Lib.hid hw8
    clear hw8
    go_wp2
    go_ret
    exact ⟨by rw [HM.out]; rfl, (HG.out.trans HgB.out).trans HW9.out⟩
   by_cases m3 : x2 < 1
   ·
    have HM : Hid (mayS l = false) := Lib.hid (mayS_step hlt (by rw [Hst.out.2, one_no (.inr (.inr (.inl m3)))]; rfl))
    have t1 : ¬ (x1 : Int) < 1 := by omega
    have t2 : ¬ (16777216 : Int) < (x1 : Int) := by omega
    have t5 : (x2 : Int) < 1 := by omega
    have t3 : decide ((x1 : Int) < 1) = false := decide_eq_false t1
    have t4 : decide ((16777216 : Int) < (x1 : Int)) = false := decide_eq_false t2
    have t6 : decide ((x2 : Int) < 1) = true := decide_eq_true t5
    clear Hst hlt m1 m2 m3
    refine region_R (by kernel_rfl) (by kernel_rfl) ?_
    refine r_val (v := ?_) (by kernel_rfl) (fun W hW => ?_) ?_; rotate_left; (focus go_light; go_simp; rfl); simp only [Pu]
    refine r_val (v := ?qv179) (by kernel_rfl) (fun W hW => ?qh179) ?qr179
    case qh179 => have g := (Below.cell hW (p := ⟨B4, 0, none⟩) hz4).trans e0; go_light; go_simp; rfl
    simp only [Pu]
    iterate 3 (refine r_val (v := ?_) (by kernel_rfl) (fun W hW => ?_) ?_; rotate_left; (focus go_light; go_simp; rfl); simp only [Pu])
    refine r_val (v := ?qv183) (by kernel_rfl) (fun W hW => ?qh183) ?qr183
    case qh183 => have g := (Below.cell hW (p := ⟨B4, 0, none⟩) hz4).trans e0; go_light; go_simp; rfl
    simp only [Pu]
    iterate 4 (refine r_val (v := ?_) (by kernel_rfl) (fun W hW => ?_) ?_; rotate_left; (focus go_light; go_simp; rfl); simp only [Pu])
    refine r_val (v := ?qv188) (by kernel_rfl) (fun W hW => ?qh188) ?qr188
    case qh188 => have g := (Below.cell hW (p := ⟨B4, 1, none⟩) hz4).trans e1; go_light; go_simp; rfl
    simp only [Pu]
    iterate 3 (refine r_val (v := ?_) (by kernel_rfl) (fun W hW => ?_) ?_; rotate_left; (focus go_light; go_simp; rfl); simp only [Pu])
    iterate 3 (refine r_skip (by kernel_rfl) ?_; simp only [Pu])
    iterate 2 (refine r_val (v := ?_) (by kernel_rfl) (fun W hW => ?_) ?_; rotate_left; (focus go_light; go_simp; rfl); simp only [Pu])
    iterate 13 (refine r_skip (by kernel_rfl) ?_; simp only [Pu])
    refine r_val (v := ?_) (by kernel_rfl) (fun W hW => ?_) ?_; rotate_left; (focus go_light; go_simp; rfl); simp only [Pu]
    refine r_nil ?_
    intro w8 hw8
    have HW9 := Lib.hid hw8
    clear hw8
    go_wp2
    go_ret
    exact ⟨by rw [HM.out]; rfl, (HG.out.trans HgB.out).trans HW9.out⟩
   have t1 : ¬ (x1 : Int) < 1 := by omega
   have t2 : ¬ (16777216 : Int) < (x1 : Int) := by omega
   have t5 : ¬ (x2 : Int) < 1 := by omega
   have t3 : decide ((x1 : Int) < 1) = false := decide_eq_false t1
   have t4 : decide ((16777216 : Int) < (x1 : Int)) = false := decide_eq_false t2
   have t6 : decide ((x2 : Int) < 1) = false := decide_eq_false t5
   by_cases m4 : 16777216 < x2
   ·
    have HM : Hid (mayS l = false) := Lib.hid (mayS_step hlt (by rw [Hst.out.2, one_no (.inr (.inr (.inr m4)))]; rfl))
    have t7 : (16777216 : Int) < (x2 : Int) := by omega
    have t8 : decide ((16777216 : Int) < (x2 : Int)) = true := decide_eq_true t7
    clear Hst hlt m1 m2 m3 m4
    refine region_R (by kernel_rfl) (by kernel_rfl) ?_
    refine r_val (v := ?_) (by kernel_rfl) (fun W hW => ?_) ?_; rotate_left; (focus go_light; go_simp; rfl); simp only [Pu]
    refine r_val (v := ?qv196) (by kernel_rfl) (fun W hW => ?qh196) ?qr196
    case qh196 => have g := (Below.cell hW (p := ⟨B4, 0, none⟩) hz4).trans e0; go_light; go_simp; rfl
    simp only [Pu]
    iterate 3 (refine r_val (v := ?_) (by kernel_rfl) (fun W hW => ?_) ?_; rotate_left; (focus go_light; go_simp; rfl); simp only [Pu])
    refine r_val (v := ?qv200) (by kernel_rfl) (fun W hW => ?qh200) ?qr200
    case qh200 => have g := (Below.cell hW (p := ⟨B4, 0, none⟩) hz4).trans e0; go_light; go_simp; rfl
    simp only [Pu]
    iterate 4 (refine r_val (v := ?_) (by kernel_rfl) (fun W hW => ?_) ?_; rotate_left; (focus go_light; go_simp; rfl); simp only [Pu])
    refine r_val (v := ?qv205) (by kernel_rfl) (fun W hW => ?qh205) ?qr205
    case qh205 => have g := (Below.cell hW (p := ⟨B4, 1, none⟩) hz4).trans e1; go_light; go_simp; rfl
    simp only [Pu]
    iterate 4 (refine r_val (v := ?_) (by kernel_rfl) (fun W hW => ?_) ?_; rotate_left; (focus go_light; go_simp; rfl); simp only [Pu])
    refine r_val (v := ?qv210) (by kernel_rfl) (fun W hW => ?qh210) ?qr210
    case qh210 => have g := (Below.cell hW (p := ⟨B4, 1, none⟩) hz4).trans e1; go_light; go_simp; rfl
    simp only [Pu]
    iterate 3 (refine r_val (v := ?_) (by kernel_rfl) (fun W hW => ?_) ?_; rotate_left; (focus go_light; go_simp; rfl); simp only [Pu])
    iterate 13 (refine r_skip (by kernel_rfl) ?_; simp only [Pu])
    refine r_val (v := ?_) (by kernel_rfl) (fun W hW => ?_) ?_; rotate_left; (focus go_light; go_simp; rfl); simp only [Pu]
    refine r_nil ?_
    intro w8 hw8
    have HW9 := Lib.hid hw8
    clear hw8
    go_wp2
    go_ret
    exact ⟨by rw [HM.out]; rfl, (HG.out.trans HgB.out).trans HW9.out⟩
   have t7 : ¬ (16777216 : Int) < (x2 : Int) := by omega
   have t8 : decide ((16777216 : Int) < (x2 : Int)) = false := decide_eq_false t7
   have hone : oneOk (x1, x2) = true := oneOk_iff.2 ⟨by simp only; omega, by simp only; omega, by simp only; omega, by simp only; omega⟩
   have Hone := Lib.hid hone
   rcases k with _ | j
   ·
    have HT : Hid (stepOk l 0 = true) := Lib.hid (by rw [Hst.out.2, hone]; rfl)
    clear hone m1 m2 m3 m4
    have z1 : decide ((0 : Int) < ((0 : Nat) : Int)) = false := by decide
    refine region_R (by kernel_rfl) (by kernel_rfl) ?_
    refine r_val (v := ?_) (by kernel_rfl) (fun W hW => ?_) ?_; rotate_left; (focus go_light; go_simp; rfl); simp only [Pu]
    refine r_val (v := ?qv249) (by kernel_rfl) (fun W hW => ?qh249) ?qr249
    case qh249 => have g := (Below.cell hW (p := ⟨B4, 0, none⟩) hz4).trans e0; go_light; go_simp; rfl
    simp only [Pu]
    iterate 3 (refine r_val (v := ?_) (by kernel_rfl) (fun W hW => ?_) ?_; rotate_left; (focus go_light; go_simp; rfl); simp only [Pu])
    refine r_val (v := ?qv253) (by kernel_rfl) (fun W hW => ?qh253) ?qr253
    case qh253 => have g := (Below.cell hW (p := ⟨B4, 0, none⟩) hz4).trans e0; go_light; go_simp; rfl
    simp only [Pu]
    iterate 4 (refine r_val (v := ?_) (by kernel_rfl) (fun W hW => ?_) ?_; rotate_left; (focus go_light; go_simp; rfl); simp only [Pu])
    refine r_val (v := ?qv258) (by kernel_rfl) (fun W hW => ?qh258) ?qr258
    case qh258 => have g := (Below.cell hW (p := ⟨B4, 1, none⟩) hz4).trans e1; go_light; go_simp; rfl
    simp only [Pu]
    iterate 4 (refine r_val (v := ?_) (by kernel_rfl) (fun W hW => ?_) ?_; rotate_left; (focus go_light; go_simp; rfl); simp only [Pu])
    refine r_val (v := ?qv263) (by kernel_rfl) (fun W hW => ?qh263) ?qr263
    case qh263 => have g := (Below.cell hW (p := ⟨B4, 1, none⟩) hz4).trans e1; go_light; go_simp; rfl
    simp only [Pu]
    iterate 6 (refine r_val (v := ?_) (by kernel_rfl) (fun W hW => ?_) ?_; rotate_left; (focus go_light; go_simp; rfl); simp only [Pu])
    iterate 9 (refine r_skip (by kernel_rfl) ?_; simp only [Pu])
    iterate 2 (refine r_val (v := ?_) (by kernel_rfl) (fun W hW => ?_) ?_; rotate_left; (focus go_light; go_simp; rfl); simp only [Pu])
    refine r_nil ?_
    intro w8 hw8
    have e1a := (Below.cell hw8 (p := ⟨B4, 1, none⟩) hz4).trans e1
    have hz8 := Nat.lt_of_lt_of_le hz4 hw8.size
    have c2a := (Below.cell hw8 (p := ⟨w.heap.size, 2, none⟩) hzw).trans c2
    have H8w := Lib.hid (HgB.out.trans hw8)
    clear e0 e1 c2 hz4 hw8
    have hs := sizeS_take hlt
    simp only [Hst.out.1] at hs
    obtain ⟨N, hN⟩ : ∃ N, N = sizeS (l.take (0)) := ⟨_, rfl⟩
    rw [← hN] at hs hsz ⊢
    have HS := Lib.hid hs
    have hNi : (N : Int) ≤ 1048576 := by omega
    have hx2i : (x2 : Int) ≤ 16777216 := by omega
    clear hN hs hsz
    by_cases big : N + (12 + 12 * x2) ≤ 1048576
    ·
     have big1 : ¬ (1048576 : Int) < (N : Int) + 12 + 12 * (x2 : Int) := by omega
     go_wp2
     go_roundw
     case rel => exact ⟨0 + 1, by omega, by go_num, by rw [HS.out]; go_num, by rw [HS.out]; exact big, (fun i hi => by rcases Nat.lt_succ_iff_lt_or_eq.1 hi with h | h; exact Hall.out i h; rw [h]; exact HT.out), H8w.out⟩
     case measure => simp [intOf]; omega
    ·
     have big1 : (1048576 : Int) < (N : Int) + 12 + 12 * (x2 : Int) := by omega
     have HM : Hid (mayS l = false) := Lib.hid (mayS_size (Nat.lt_of_lt_of_le (by rw [HS.out]; omega) (sizeS_mono l (0 + 1))))
     clear big
     go_wp2
     go_ret
     exact ⟨by rw [HM.out]; rfl, HG.out.trans H8w.out⟩
   ·
    have hj : j < l.length := by omega
    obtain ⟨p0, p1⟩ := Hc'.out j hj
    have hone1 : oneOk l[j] = true := by
     have := Hall.out j (Nat.lt_succ_self _)
     rw [stepOk_at hj, Bool.and_eq_true] at this
     exact this.1
    obtain ⟨y, hy⟩ : ∃ y, y = l[j] := ⟨_, rfl⟩
    have hst := Hst.out.2
    simp only [Nat.add_sub_cancel] at hst
    rw [← hy] at hone1 p0 p1 hst
    obtain ⟨F, hF⟩ : ∃ F, F = fitsS y (x1, x2) := ⟨_, rfl⟩
    have hst2 : stepOk l (j + 1) = F := by rw [hst, hone, hF]; simp
    have hcall := fun W => ref_side y (x1, x2) hone1 hone W
    rw [← hF] at hcall
    obtain ⟨y1, y2⟩ := y
    simp only at p0 p1 hcall
    have HCALL := Lib.hid hcall
    have HST := Lib.hid hst2
    have z1 : decide ((0 : Int) < (j : Int) + 1) = true := by rw [decide_eq_true_eq]; omega
    have z2 : (0 : Int) < (j : Int) + 1 := by omega
    have hji : (j : Int) ≤ 400 := by omega
    have zw : IntKind.i64.wrap (j : Int) = (j : Int) := IntWalk.i64_in (j : Int) (by omega)
    have hjl : (j : Int) < (l.length : Int) := by omega
    clear hone hone1 hF hst hst2 hcall hy hj m1 m2 m3 m4
    cases F with
    | false =>
     have HM : Hid (mayS l = false) := Lib.hid (mayS_step hlt HST.out)
     clear Hst hlt
     refine region_R (by kernel_rfl) (by kernel_rfl) ?_
     refine r_val (v := ?_) (by kernel_rfl) (fun W hW => ?_) ?_; rotate_left; (focus go_light; go_simp; rfl); simp only [Pu]
     refine r_val (v := ?qv216) (by kernel_rfl) (fun W hW => ?qh216) ?qr216
     case qh216 => have g := (Below.cell hW (p := ⟨B4, 0, none⟩) hz4).trans e0; go_light; go_simp; rfl
     simp only [Pu]
     iterate 3 (refine r_val (v := ?_) (by kernel_rfl) (fun W hW => ?_) ?_; rotate_left; (focus go_light; go_simp; rfl); simp only [Pu])
     refine r_val (v := ?qv220) (by kernel_rfl) (fun W hW => ?qh220) ?qr220
     case qh220 => have g := (Below.cell hW (p := ⟨B4, 0, none⟩) hz4).trans e0; go_light; go_simp; rfl
     simp only [Pu]
     iterate 4 (refine r_val (v := ?_) (by kernel_rfl) (fun W hW => ?_) ?_; rotate_left; (focus go_light; go_simp; rfl); simp only [Pu])
     refine r_val (v := ?qv225) (by kernel_rfl) (fun W hW => ?qh225) ?qr225
     case qh225 => have g := (Below.cell hW (p := ⟨B4, 1, none⟩) hz4).trans e1; go_light; go_simp; rfl
     simp only [Pu]
     iterate 4 (refine r_val (v := ?_) (by kernel_rfl) (fun W hW => ?_) ?_; rotate_left; (focus go_light; go_simp; rfl); simp only [Pu])
     refine r_val (v := ?qv230) (by kernel_rfl) (fun W hW => ?qh230) ?qr230
     case qh230 => have g := (Below.cell hW (p := ⟨B4, 1, none⟩) hz4).trans e1; go_light; go_simp; rfl
     simp only [Pu]
     iterate 7 (refine r_val (v := ?_) (by kernel_rfl) (fun W hW => ?_) ?_; rotate_left; (focus go_light; go_simp; rfl); simp only [Pu])
     refine r_val (v := ?qv238) (by kernel_rfl) (fun W hW => ?qh238) ?qr238
     case qh238 => have g := (Below.cell hW (p := ⟨w.heap.size, 2, none⟩) hzw).trans c2; go_light; go_simp; rfl
     simp only [Pu]
     iterate 3 (refine r_val (v := ?_) (by kernel_rfl) (fun W hW => ?_) ?_; rotate_left; (focus go_light; go_simp; rfl); simp only [Pu])
     refine r_val (v := ?qv242) (by kernel_rfl) (fun W hW => ?qh242) ?qr242
     case qh242 => have g := (Below.cell hW (p := ⟨b, j * 2, none⟩) hbw).trans p0; have g2 := (Below.cell hW (p := ⟨b, j * 2 + 1, none⟩) hbw).trans p1; go_light; go_simp; rfl
     simp only [Pu]
     refine r_val (v := ?qv243) (by kernel_rfl) (fun W hW => ?qh243) ?qr243
     case qh243 => have g := (Below.cell hW (p := ⟨B4, 0, none⟩) hz4).trans e0; have g2 := (Below.cell hW (p := ⟨B4, 1, none⟩) hz4).trans e1; go_light; go_simp; rfl
     simp only [Pu]
     refine r_call (v := .bool false) (f := ?qf244) (args := ?qa244) (by kernel_rfl) (fun W hW => ?qh244) (fun W hW => ?qc244) ?qr244
     case qh244 => go_light; go_simp; constructor <;> rfl
     case qc244 => exact (HCALL.out _).mono (fun e w' h => ⟨h.1, Gr.trans hW h.2⟩)
     simp only [Pu]
     iterate 3 (refine r_val (v := ?_) (by kernel_rfl) (fun W hW => ?_) ?_; rotate_left; (focus go_light; go_simp; rfl); simp only [Pu])
     refine r_nil ?_
     intro w8 hw8
     have HW9 := Lib.hid hw8
     clear hw8
     go_wp2
     go_ret
     exact ⟨by rw [HM.out]; rfl, (HG.out.trans HgB.out).trans HW9.out⟩
    | true =>
     refine region_R (by kernel_rfl) (by kernel_rfl) ?_
     refine r_val (v := ?_) (by kernel_rfl) (fun W hW => ?_) ?_; rotate_left; (focus go_light; go_simp; rfl); simp only [Pu]
     refine r_val (v := ?qv273) (by kernel_rfl) (fun W hW => ?qh273) ?qr273
     case qh273 => have g := (Below.cell hW (p := ⟨B4, 0, none⟩) hz4).trans e0; go_light; go_simp; rfl
     simp only [Pu]
     iterate 3 (refine r_val (v := ?_) (by kernel_rfl) (fun W hW => ?_) ?_; rotate_left; (focus go_light; go_simp; rfl); simp only [Pu])
     refine r_val (v := ?qv277) (by kernel_rfl) (fun W hW => ?qh277) ?qr277
     case qh277 => have g := (Below.cell hW (p := ⟨B4, 0, none⟩) hz4).trans e0; go_light; go_simp; rfl
     simp only [Pu]
     iterate 4 (refine r_val (v := ?_) (by kernel_rfl) (fun W hW => ?_) ?_; rotate_left; (focus go_light; go_simp; rfl); simp only [Pu])
     refine r_val (v := ?qv282) (by kernel_rfl) (fun W hW => ?qh282) ?qr282
     case qh282 => have g := (Below.cell hW (p := ⟨B4, 1, none⟩) hz4).trans e1; go_light; go_simp; rfl
     simp only [Pu]
     iterate 4 (refine r_val (v := ?_) (by kernel_rfl) (fun W hW => ?_) ?_; rotate_left; (focus go_light; go_simp; rfl); simp only [Pu])
     refine r_val (v := ?qv287) (by kernel_rfl) (fun W hW => ?qh287) ?qr287
     case qh287 => have g := (Below.cell hW (p := ⟨B4, 1, none⟩) hz4).trans e1; go_light; go_simp; rfl
     simp only [Pu]
     iterate 7 (refine r_val (v := ?_) (by kernel_rfl) (fun W hW => ?_) ?_; rotate_left; (focus go_light; go_simp; rfl); simp only [Pu])
     refine r_val (v := ?qv295) (by kernel_rfl) (fun W hW => ?qh295) ?qr295
     case qh295 => have g := (Below.cell hW (p := ⟨w.heap.size, 2, none⟩) hzw).trans c2; go_light; go_simp; rfl
     simp only [Pu]
     iterate 3 (refine r_val (v := ?_) (by kernel_rfl) (fun W hW => ?_) ?_; rotate_left; (focus go_light; go_simp; rfl); simp only [Pu])
     refine r_val (v := ?qv299) (by kernel_rfl) (fun W hW => ?qh299) ?qr299
     case qh299 => have g := (Below.cell hW (p := ⟨b, j * 2, none⟩) hbw).trans p0; have g2 := (Below.cell hW (p := ⟨b, j * 2 + 1, none⟩) hbw).trans p1; go_light; go_simp; rfl
     simp only [Pu]
     refine r_val (v := ?qv300) (by kernel_rfl) (fun W hW => ?qh300) ?qr300
     case qh300 => have g := (Below.cell hW (p := ⟨B4, 0, none⟩) hz4).trans e0; have g2 := (Below.cell hW (p := ⟨B4, 1, none⟩) hz4).trans e1; go_light; go_simp; rfl
     simp only [Pu]
     refine r_call (v := .bool true) (f := ?qf301) (args := ?qa301) (by kernel_rfl) (fun W hW => ?qh301) (fun W hW => ?qc301) ?qr301
     case qh301 => go_light; go_simp; constructor <;> rfl
     case qc301 => exact (HCALL.out _).mono (fun e w' h => ⟨h.1, Gr.trans hW h.2⟩)
     simp only [Pu]
     iterate 3 (refine r_val (v := ?_) (by kernel_rfl) (fun W hW => ?_) ?_; rotate_left; (focus go_light; go_simp; rfl); simp only [Pu])
     refine r_nil ?_
     intro w8 hw8
     have e1a := (Below.cell hw8 (p := ⟨B4, 1, none⟩) hz4).trans e1
     have hz8 := Nat.lt_of_lt_of_le hz4 hw8.size
     have c2a := (Below.cell hw8 (p := ⟨w.heap.size, 2, none⟩) hzw).trans c2
     have H8w := Lib.hid (HgB.out.trans hw8)
     clear e0 e1 c2 hz4 hw8
     have hs := sizeS_take hlt
     simp only [Hst.out.1] at hs
     obtain ⟨N, hN⟩ : ∃ N, N = sizeS (l.take (j + 1)) := ⟨_, rfl⟩
     rw [← hN] at hs hsz ⊢
     have HS := Lib.hid hs
     have hNi : (N : Int) ≤ 1048576 := by omega
     have hx2i : (x2 : Int) ≤ 16777216 := by omega
     clear hN hs hsz
     by_cases big : N + (12 + 12 * x2) ≤ 1048576
     ·
      have big1 : ¬ (1048576 : Int) < (N : Int) + 12 + 12 * (x2 : Int) := by omega
      go_wp2
      go_roundw
      case rel => exact ⟨j + 1 + 1, by omega, by go_num, by rw [HS.out]; go_num, by rw [HS.out]; exact big, (fun i hi => by rcases Nat.lt_succ_iff_lt_or_eq.1 hi with h | h; exact Hall.out i h; rw [h]; exact HST.out), H8w.out⟩
      case measure => simp [intOf]; omega
     ·
      have big1 : (1048576 : Int) < (N : Int) + 12 + 12 * (x2 : Int) := by omega
      have HM : Hid (mayS l = false) := Lib.hid (mayS_size (Nat.lt_of_lt_of_le (by rw [HS.out]; omega) (sizeS_mono l (j + 1 + 1))))
      clear big
      go_wp2
      go_ret
      exact ⟨by rw [HM.out]; rfl, HG.out.trans H8w.out⟩
  ·
   have hkk : k = l.length := by omega
   subst hkk
   have hx := H8.out.1
   obtain ⟨m, hm⟩ : ∃ m, l.length = m + 1 := ⟨l.length - 1, by omega⟩
   have hml : m < l.length := by omega
   obtain ⟨b, rfl, hb, hc⟩ := (HR.out.gr hgr) hx
   obtain ⟨d0, d1⟩ := hc m hml
   have hlast : lastS l = l[m] := by rw [lastS_at hx]; congr 1; omega
   have hone : ∀ j (h : j < l.length), oneOk l[j] = true := fun j h => by
    have := Hall.out j h
    rw [stepOk_at h, Bool.and_eq_true] at this
    exact this.1
   have hle2 : ∀ a ∈ l, a.2 ≤ 16777216 := fun a ha => by
    obtain ⟨j, h, rfl⟩ := List.mem_iff_getElem.1 ha
    exact (oneOk_iff.1 (hone j h)).2.2.2
   have hol := oneOk_iff.1 (hone m hml)
   have hrest := fun h => mayS_rest hx H8.out.2 Hall.out h
   rw [hlast] at hrest
   obtain ⟨x1, hx1⟩ : ∃ x, x = l[m].1 := ⟨_, rfl⟩
   obtain ⟨x2, hx2⟩ : ∃ x, x = l[m].2 := ⟨_, rfl⟩
   rw [← hx1] at d0 hol hrest
   rw [← hx2] at d1 hol hrest
   have hw := prod_small (x1 : Int) x2 (by omega) (by omega) (by omega) (by omega)
   have Hrest := Lib.hid hrest
   have Hrr := Lib.hid (HR.out.gr hgr)
   clear hx1 hx2 hlast hone hol hrest hc hx
   rw [hm] at c2 ⊢
   have hmi : (m : Int) ≤ 400 := by omega
   have zm : IntKind.i64.wrap (m : Int) = (m : Int) := IntWalk.i64_in (m : Int) (by omega)
   clear hlt h1 h2 hml
   go_upto_region 14 with (fail)
   obtain ⟨wC, hwC⟩ : ∃ wC, wC = wr.alloc (.cells #[.int .i64 x1, .int .i64 x2] 34) := ⟨_, rfl⟩
   have gC : Gr wr wC := by rw [hwC]; exact Gr.alloc (Gr.refl wr) _
   have hz5 : wr.heap.size < wC.heap.size := by rw [hwC]; simp
   have e0 : wC.cell? ⟨wr.heap.size, 0, none⟩ = some (.int .i64 x1) := by rw [hwC]; go_simp
   have e1 : wC.cell? ⟨wr.heap.size, 1, none⟩ = some (.int .i64 x2) := by rw [hwC]; go_simp
   rw [← hwC]
   have c0' := (Below.cell (hgr.trans gC) (p := ⟨w.heap.size, 0, none⟩) hz).trans c0
   have c1' := (Below.cell (hgr.trans gC) (p := ⟨w.heap.size, 1, none⟩) hz).trans c1
   have c2' := (Below.cell gC (p := ⟨w.heap.size, 2, none⟩) hzw).trans c2
   have HRC := Lib.hid (Hrr.out.gr gC)
   have HGC := Lib.hid (hgr.trans gC)
   generalize wr.heap.size = B5 at hz5 e0 e1 ⊢
   clear hwC gC c0 c1 c2 d0 d1 hb
   have hM := Hrest.out (by rw [List.take_length] at hsz; exact hsz)
   clear hle2 hm hgr hsz
   by_cases u1 : x1 * x2 ≤ maxTime
   ·
    have u2 : (x1 : Int) * (x2 : Int) ≤ 4294967295 := by rw [← Int.natCast_mul]; unfold maxTime at u1; omega
    have u3 : decide ((x1 : Int) * (x2 : Int) ≤ 4294967295) = true := decide_eq_true u2
    have HM : Hid (mayS l = true) := Lib.hid (by rw [hM, Nat.ble_eq]; exact u1)
    clear u1 hM
    go_wp2
    go_ret
    exact ⟨ret_b (by rw [HM.out]), HG.out.trans HGC.out⟩
   ·
    have u2 : ¬ (x1 : Int) * (x2 : Int) ≤ 4294967295 := by rw [← Int.natCast_mul]; unfold maxTime at u1; omega
    have u3 : decide ((x1 : Int) * (x2 : Int) ≤ 4294967295) = false := decide_eq_false u2
    have HM : Hid (mayS l = false) := Lib.hid (by rw [hM, Bool.eq_false_iff, ne_eq, Nat.ble_eq]; exact u1)
    clear u1 hM
    go_wp2
    go_ret
    exact ⟨ret_b (by rw [HM.out]), HG.out.trans HGC.out⟩
end Go.Proofs.YtjapddfnpmlifaaGreatDoor
