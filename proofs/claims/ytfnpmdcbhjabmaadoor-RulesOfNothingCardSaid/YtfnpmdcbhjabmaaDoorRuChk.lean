/- whead.Check. -/
import Derived.Test.YtfnpmdcbhjabmaaDoorRuMayP
namespace Go.Proofs.YtfnpmdcbhjabmaaDoor
set_option linter.unusedVariables false
set_option linter.unusedSimpArgs false
open Go.RowKit
set_option maxRecDepth 100000 in
set_option maxHeartbeats 6400000 in
theorem whead_check (A : Option Addr) (c : Nat) (l : List (Nat × Nat)) (hn : ∀ a ∈ l, a.1 ≤ maxN ∧ a.2 ≤ maxN) (hll : l.length ≤ 400) (w : World) (hr : Ra w A l) : Calls Tryd.prog 15 #[.agg #[.int .i64 1, .int .i64 0, .slice A l.length c]] w fun e w' => e = .returned (.int .i64 (bif mayS l then 0 else 1)) ∧ Gr w w' := by
  obtain ⟨V, hV⟩ : ∃ V, V = w.alloc (.cells #[.int .i64 1, .int .i64 0, .slice A l.length c] 33) := ⟨_, rfl⟩
  have gV : Gr w V := by rw [hV]; exact Gr.alloc (Gr.refl w) _
  have hz : w.heap.size < V.heap.size := by rw [hV]; simp
  have c0 : V.cell? ⟨w.heap.size, 0, none⟩ = some (.int .i64 1) := by rw [hV]; go_simp
  have c1 : V.cell? ⟨w.heap.size, 1, none⟩ = some (.int .i64 0) := by rw [hV]; go_simp
  have c2 : V.cell? ⟨w.heap.size, 2, none⟩ = some (.slice A l.length c) := by rw [hV]; go_simp
  have HV := Lib.hid hV
  have HG := Lib.hid gV
  have HR := Lib.hid (hr.gr gV)
  have HN := Lib.hid hn
  clear hV gV hr hn
  rcases Nat.eq_zero_or_pos l.length with h0 | h0
  · have hM := mayS_len (.inl h0)
    have HM := Lib.hid hM
    clear hM
    have h1 : (l.length : Int) < 1 := by omega
    clear h0
    go_enter Tryd.func15, Tryd.ntmps15
    go_upto_region 1 with (fail)
    rw [← HV.out]
    clear HV
    go_wp2
    go_ret
    exact ⟨by rw [HM.out]; rfl, HG.out⟩
  rcases Nat.lt_or_ge 8 l.length with h8 | h8
  · have hM := mayS_len (.inr h8)
    have HM := Lib.hid hM
    clear hM
    have h1 : ¬ (l.length : Int) < 1 := by omega
    have h2 : (8 : Int) < (l.length : Int) := by omega
    clear h0 h8
    go_enter Tryd.func15, Tryd.ntmps15
    go_upto_region 1 with (fail)
    rw [← HV.out]
    clear HV
    go_wp2
    go_ret
    exact ⟨by rw [HM.out]; rfl, HG.out⟩
  have h1 : ¬ (l.length : Int) < 1 := by omega
  have h2 : ¬ (8 : Int) < (l.length : Int) := by omega
  have H8 := Lib.hid (And.intro h0 h8)
  clear h0 h8
  go_enter Tryd.func15, Tryd.ntmps15
  go_upto_region 1 with (fail)
  rw [← HV.out]
  clear HV
  go_upto_region 3 with (fail)
  go_wp2
  go_loopw [39] (fun i wr => ∃ k : Nat, k ≤ l.length ∧ i = .int .i64 k ∧ (∀ j, j < k → stepOk l j = true) ∧ Gr V wr) (fun i _ => l.length - (intOf i).toNat)
  case atStart => exact ⟨0, Nat.zero_le _, rfl, fun j hj => absurd hj (Nat.not_lt_zero _), Gr.refl _⟩
  case round =>
    obtain ⟨k, hk, rfl, hall, hgr⟩ := hrel
    have Hall := Lib.hid hall
    have Hgr := Lib.hid hgr
    have hzw : w.heap.size < wr.heap.size := Nat.lt_of_lt_of_le hz hgr.size
    have c2' := (Below.cell hgr (p := ⟨w.heap.size, 2, none⟩) hz).trans c2
    clear hall c2
    have c2 := c2'
    clear c2'
    by_cases hlt : k < l.length
    · have hlt' : (k : Int) < (l.length : Int) := by omega
      obtain ⟨b, rfl, hb, hc⟩ := (HR.out.gr hgr) (by omega)
      obtain ⟨d0, d1⟩ := hc k hlt
      have Hc := Lib.hid hc
      have hn := HN.out l[k] (List.getElem_mem hlt)
      have hst := stepOk_at hlt
      have hgr0 := Hgr
      clear hc hgr
      obtain ⟨x1, hx1⟩ : ∃ x, x = l[k].1 := ⟨_, rfl⟩
      obtain ⟨x2, hx2⟩ : ∃ x, x = l[k].2 := ⟨_, rfl⟩
      have hx : l[k] = (x1, x2) := by rw [hx1, hx2]
      rw [← hx1] at d0 hn
      rw [← hx2] at d1 hn
      rw [hx] at hst
      have Hst := Lib.hid (And.intro hx hst)
      have hn1 : (x1 : Int) ≤ 4611686018427387904 := by have := hn.1; unfold maxN at this; omega
      have hn2 : (x2 : Int) ≤ 4611686018427387904 := by have := hn.2; unfold maxN at this; omega
      clear hx1 hx2 hx hst hn
      go_upto_region 6 with (fail)
      obtain ⟨wB, hwB⟩ : ∃ wB, wB = wr.alloc (.cells #[.int .i64 x1, .int .i64 x2] 44) := ⟨_, rfl⟩
      have gB : Gr wr wB := by rw [hwB]; exact Gr.alloc (Gr.refl wr) _
      have hz4 : wr.heap.size < wB.heap.size := by rw [hwB]; simp
      have e0 : wB.cell? ⟨wr.heap.size, 0, none⟩ = some (.int .i64 x1) := by rw [hwB]; go_simp
      have e1 : wB.cell? ⟨wr.heap.size, 1, none⟩ = some (.int .i64 x2) := by rw [hwB]; go_simp
      rw [← hwB]
      have hbw : b < wB.heap.size := Nat.lt_of_lt_of_le hb gB.size
      have c2' := (Below.cell gB (p := ⟨w.heap.size, 2, none⟩) hzw).trans c2
      have hzw' := Nat.lt_of_lt_of_le hzw gB.size
      have Hc' : Hid (∀ j (h : j < l.length), wB.cell? ⟨b, j * 2, none⟩ = some (.int .i64 (l[j].1 : Nat)) ∧ wB.cell? ⟨b, j * 2 + 1, none⟩ = some (.int .i64 (l[j].2 : Nat))) := Lib.hid fun j h => ⟨(Below.cell gB (p := ⟨b, j * 2, none⟩) hb).trans (Hc.out j h).1, (Below.cell gB (p := ⟨b, j * 2 + 1, none⟩) hb).trans (Hc.out j h).2⟩
      have HgB := Lib.hid (hgr0.out.trans gB)
      generalize wr.heap.size = B4 at hz4 e0 e1 ⊢
      clear hwB c0 c1 c2 hzw d0 d1 hb Hc gB
      have c2 := c2'
      have hzw := hzw'
      clear c2' hzw'
      by_cases m1 : x1 < 1
      · have HM : Hid (mayS l = false) := Lib.hid (mayS_step hlt (by rw [Hst.out.2, one_no (.inl m1)]; rfl))
        have t1 : (x1 : Int) < 1 := by omega
        have t2 : decide ((x1 : Int) < 1) = true := decide_eq_true t1
        clear Hst hlt m1
        refine region_R (by kernel_rfl) (by kernel_rfl) ?_
        refine r_val (v := ?qv1) (by kernel_rfl) (fun W hW => ?qh1) ?qr1
        case qh1 =>
          go_light
          go_simp
          rfl
        simp only [Act.put, List.setIfInBounds_toArray, List.set_cons_zero, List.set_cons_succ]
        refine r_val (v := ?qv2) (by kernel_rfl) (fun W hW => ?qh2) ?qr2
        case qh2 =>
          have g := (Below.cell hW (p := ⟨B4, 0, none⟩) hz4).trans e0
          go_light
          go_simp
          rfl
        simp only [Act.put, List.setIfInBounds_toArray, List.set_cons_zero, List.set_cons_succ]
        refine r_val (v := ?qv3) (by kernel_rfl) (fun W hW => ?qh3) ?qr3
        case qh3 =>
          go_light
          go_simp
          rfl
        simp only [Act.put, List.setIfInBounds_toArray, List.set_cons_zero, List.set_cons_succ]
        refine r_val (v := ?qv4) (by kernel_rfl) (fun W hW => ?qh4) ?qr4
        case qh4 =>
          go_light
          go_simp
          rfl
        simp only [Act.put, List.setIfInBounds_toArray, List.set_cons_zero, List.set_cons_succ]
        refine r_skip (by kernel_rfl) ?_
        simp only [Act.put, List.setIfInBounds_toArray, List.set_cons_zero, List.set_cons_succ]
        refine r_skip (by kernel_rfl) ?_
        simp only [Act.put, List.setIfInBounds_toArray, List.set_cons_zero, List.set_cons_succ]
        refine r_skip (by kernel_rfl) ?_
        simp only [Act.put, List.setIfInBounds_toArray, List.set_cons_zero, List.set_cons_succ]
        refine r_val (v := ?qv5) (by kernel_rfl) (fun W hW => ?qh5) ?qr5
        case qh5 =>
          go_light
          go_simp
          rfl
        simp only [Act.put, List.setIfInBounds_toArray, List.set_cons_zero, List.set_cons_succ]
        refine r_val (v := ?qv6) (by kernel_rfl) (fun W hW => ?qh6) ?qr6
        case qh6 =>
          go_light
          go_simp
          rfl
        simp only [Act.put, List.setIfInBounds_toArray, List.set_cons_zero, List.set_cons_succ]
        refine r_skip (by kernel_rfl) ?_
        simp only [Act.put, List.setIfInBounds_toArray, List.set_cons_zero, List.set_cons_succ]
        refine r_skip (by kernel_rfl) ?_
        simp only [Act.put, List.setIfInBounds_toArray, List.set_cons_zero, List.set_cons_succ]
        refine r_skip (by kernel_rfl) ?_
        simp only [Act.put, List.setIfInBounds_toArray, List.set_cons_zero, List.set_cons_succ]
        refine r_val (v := ?qv7) (by kernel_rfl) (fun W hW => ?qh7) ?qr7
        case qh7 =>
          go_light
          go_simp
          rfl
        simp only [Act.put, List.setIfInBounds_toArray, List.set_cons_zero, List.set_cons_succ]
        refine r_val (v := ?qv8) (by kernel_rfl) (fun W hW => ?qh8) ?qr8
        case qh8 =>
          go_light
          go_simp
          rfl
        simp only [Act.put, List.setIfInBounds_toArray, List.set_cons_zero, List.set_cons_succ]
        refine r_skip (by kernel_rfl) ?_
        simp only [Act.put, List.setIfInBounds_toArray, List.set_cons_zero, List.set_cons_succ]
        refine r_skip (by kernel_rfl) ?_
        simp only [Act.put, List.setIfInBounds_toArray, List.set_cons_zero, List.set_cons_succ]
        refine r_skip (by kernel_rfl) ?_
        simp only [Act.put, List.setIfInBounds_toArray, List.set_cons_zero, List.set_cons_succ]
        refine r_val (v := ?qv9) (by kernel_rfl) (fun W hW => ?qh9) ?qr9
        case qh9 =>
          go_light
          go_simp
          rfl
        simp only [Act.put, List.setIfInBounds_toArray, List.set_cons_zero, List.set_cons_succ]
        refine r_val (v := ?qv10) (by kernel_rfl) (fun W hW => ?qh10) ?qr10
        case qh10 =>
          go_light
          go_simp
          rfl
        simp only [Act.put, List.setIfInBounds_toArray, List.set_cons_zero, List.set_cons_succ]
        refine r_skip (by kernel_rfl) ?_
        simp only [Act.put, List.setIfInBounds_toArray, List.set_cons_zero, List.set_cons_succ]
        refine r_skip (by kernel_rfl) ?_
        simp only [Act.put, List.setIfInBounds_toArray, List.set_cons_zero, List.set_cons_succ]
        refine r_skip (by kernel_rfl) ?_
        simp only [Act.put, List.setIfInBounds_toArray, List.set_cons_zero, List.set_cons_succ]
        refine r_skip (by kernel_rfl) ?_
        simp only [Act.put, List.setIfInBounds_toArray, List.set_cons_zero, List.set_cons_succ]
        refine r_skip (by kernel_rfl) ?_
        simp only [Act.put, List.setIfInBounds_toArray, List.set_cons_zero, List.set_cons_succ]
        refine r_skip (by kernel_rfl) ?_
        simp only [Act.put, List.setIfInBounds_toArray, List.set_cons_zero, List.set_cons_succ]
        refine r_skip (by kernel_rfl) ?_
        simp only [Act.put, List.setIfInBounds_toArray, List.set_cons_zero, List.set_cons_succ]
        refine r_skip (by kernel_rfl) ?_
        simp only [Act.put, List.setIfInBounds_toArray, List.set_cons_zero, List.set_cons_succ]
        refine r_skip (by kernel_rfl) ?_
        simp only [Act.put, List.setIfInBounds_toArray, List.set_cons_zero, List.set_cons_succ]
        refine r_skip (by kernel_rfl) ?_
        simp only [Act.put, List.setIfInBounds_toArray, List.set_cons_zero, List.set_cons_succ]
        refine r_skip (by kernel_rfl) ?_
        simp only [Act.put, List.setIfInBounds_toArray, List.set_cons_zero, List.set_cons_succ]
        refine r_skip (by kernel_rfl) ?_
        simp only [Act.put, List.setIfInBounds_toArray, List.set_cons_zero, List.set_cons_succ]
        refine r_skip (by kernel_rfl) ?_
        simp only [Act.put, List.setIfInBounds_toArray, List.set_cons_zero, List.set_cons_succ]
        refine r_val (v := ?qv11) (by kernel_rfl) (fun W hW => ?qh11) ?qr11
        case qh11 =>
          go_light
          go_simp
          rfl
        simp only [Act.put, List.setIfInBounds_toArray, List.set_cons_zero, List.set_cons_succ]
        refine r_nil ?_
        intro w8 hw8
        have HW9 := Lib.hid hw8
        clear hw8
        go_wp2
        go_ret
        exact ⟨by rw [HM.out]; rfl, (HG.out.trans HgB.out).trans HW9.out⟩
      by_cases m2 : 16777216 < x1
      · have HM : Hid (mayS l = false) := Lib.hid (mayS_step hlt (by rw [Hst.out.2, one_no (.inr (.inl m2))]; rfl))
        have t1 : ¬ (x1 : Int) < 1 := by omega
        have t2 : (16777216 : Int) < (x1 : Int) := by omega
        have t3 : decide ((x1 : Int) < 1) = false := decide_eq_false t1
        have t4 : decide ((16777216 : Int) < (x1 : Int)) = true := decide_eq_true t2
        clear Hst hlt m1 m2
        refine region_R (by kernel_rfl) (by kernel_rfl) ?_
        refine r_val (v := ?qv12) (by kernel_rfl) (fun W hW => ?qh12) ?qr12
        case qh12 =>
          go_light
          go_simp
          rfl
        simp only [Act.put, List.setIfInBounds_toArray, List.set_cons_zero, List.set_cons_succ]
        refine r_val (v := ?qv13) (by kernel_rfl) (fun W hW => ?qh13) ?qr13
        case qh13 =>
          have g := (Below.cell hW (p := ⟨B4, 0, none⟩) hz4).trans e0
          go_light
          go_simp
          rfl
        simp only [Act.put, List.setIfInBounds_toArray, List.set_cons_zero, List.set_cons_succ]
        refine r_val (v := ?qv14) (by kernel_rfl) (fun W hW => ?qh14) ?qr14
        case qh14 =>
          go_light
          go_simp
          rfl
        simp only [Act.put, List.setIfInBounds_toArray, List.set_cons_zero, List.set_cons_succ]
        refine r_val (v := ?qv15) (by kernel_rfl) (fun W hW => ?qh15) ?qr15
        case qh15 =>
          go_light
          go_simp
          rfl
        simp only [Act.put, List.setIfInBounds_toArray, List.set_cons_zero, List.set_cons_succ]
        refine r_val (v := ?qv16) (by kernel_rfl) (fun W hW => ?qh16) ?qr16
        case qh16 =>
          go_light
          go_simp
          rfl
        simp only [Act.put, List.setIfInBounds_toArray, List.set_cons_zero, List.set_cons_succ]
        refine r_val (v := ?qv17) (by kernel_rfl) (fun W hW => ?qh17) ?qr17
        case qh17 =>
          have g := (Below.cell hW (p := ⟨B4, 0, none⟩) hz4).trans e0
          go_light
          go_simp
          rfl
        simp only [Act.put, List.setIfInBounds_toArray, List.set_cons_zero, List.set_cons_succ]
        refine r_val (v := ?qv18) (by kernel_rfl) (fun W hW => ?qh18) ?qr18
        case qh18 =>
          go_light
          go_simp
          rfl
        simp only [Act.put, List.setIfInBounds_toArray, List.set_cons_zero, List.set_cons_succ]
        refine r_val (v := ?qv19) (by kernel_rfl) (fun W hW => ?qh19) ?qr19
        case qh19 =>
          go_light
          go_simp
          rfl
        simp only [Act.put, List.setIfInBounds_toArray, List.set_cons_zero, List.set_cons_succ]
        refine r_val (v := ?qv20) (by kernel_rfl) (fun W hW => ?qh20) ?qr20
        case qh20 =>
          go_light
          go_simp
          rfl
        simp only [Act.put, List.setIfInBounds_toArray, List.set_cons_zero, List.set_cons_succ]
        refine r_skip (by kernel_rfl) ?_
        simp only [Act.put, List.setIfInBounds_toArray, List.set_cons_zero, List.set_cons_succ]
        refine r_skip (by kernel_rfl) ?_
        simp only [Act.put, List.setIfInBounds_toArray, List.set_cons_zero, List.set_cons_succ]
        refine r_skip (by kernel_rfl) ?_
        simp only [Act.put, List.setIfInBounds_toArray, List.set_cons_zero, List.set_cons_succ]
        refine r_val (v := ?qv21) (by kernel_rfl) (fun W hW => ?qh21) ?qr21
        case qh21 =>
          go_light
          go_simp
          rfl
        simp only [Act.put, List.setIfInBounds_toArray, List.set_cons_zero, List.set_cons_succ]
        refine r_val (v := ?qv22) (by kernel_rfl) (fun W hW => ?qh22) ?qr22
        case qh22 =>
          go_light
          go_simp
          rfl
        simp only [Act.put, List.setIfInBounds_toArray, List.set_cons_zero, List.set_cons_succ]
        refine r_skip (by kernel_rfl) ?_
        simp only [Act.put, List.setIfInBounds_toArray, List.set_cons_zero, List.set_cons_succ]
        refine r_skip (by kernel_rfl) ?_
        simp only [Act.put, List.setIfInBounds_toArray, List.set_cons_zero, List.set_cons_succ]
        refine r_skip (by kernel_rfl) ?_
        simp only [Act.put, List.setIfInBounds_toArray, List.set_cons_zero, List.set_cons_succ]
        refine r_val (v := ?qv23) (by kernel_rfl) (fun W hW => ?qh23) ?qr23
        case qh23 =>
          go_light
          go_simp
          rfl
        simp only [Act.put, List.setIfInBounds_toArray, List.set_cons_zero, List.set_cons_succ]
        refine r_val (v := ?qv24) (by kernel_rfl) (fun W hW => ?qh24) ?qr24
        case qh24 =>
          go_light
          go_simp
          rfl
        simp only [Act.put, List.setIfInBounds_toArray, List.set_cons_zero, List.set_cons_succ]
        refine r_skip (by kernel_rfl) ?_
        simp only [Act.put, List.setIfInBounds_toArray, List.set_cons_zero, List.set_cons_succ]
        refine r_skip (by kernel_rfl) ?_
        simp only [Act.put, List.setIfInBounds_toArray, List.set_cons_zero, List.set_cons_succ]
        refine r_skip (by kernel_rfl) ?_
        simp only [Act.put, List.setIfInBounds_toArray, List.set_cons_zero, List.set_cons_succ]
        refine r_skip (by kernel_rfl) ?_
        simp only [Act.put, List.setIfInBounds_toArray, List.set_cons_zero, List.set_cons_succ]
        refine r_skip (by kernel_rfl) ?_
        simp only [Act.put, List.setIfInBounds_toArray, List.set_cons_zero, List.set_cons_succ]
        refine r_skip (by kernel_rfl) ?_
        simp only [Act.put, List.setIfInBounds_toArray, List.set_cons_zero, List.set_cons_succ]
        refine r_skip (by kernel_rfl) ?_
        simp only [Act.put, List.setIfInBounds_toArray, List.set_cons_zero, List.set_cons_succ]
        refine r_skip (by kernel_rfl) ?_
        simp only [Act.put, List.setIfInBounds_toArray, List.set_cons_zero, List.set_cons_succ]
        refine r_skip (by kernel_rfl) ?_
        simp only [Act.put, List.setIfInBounds_toArray, List.set_cons_zero, List.set_cons_succ]
        refine r_skip (by kernel_rfl) ?_
        simp only [Act.put, List.setIfInBounds_toArray, List.set_cons_zero, List.set_cons_succ]
        refine r_skip (by kernel_rfl) ?_
        simp only [Act.put, List.setIfInBounds_toArray, List.set_cons_zero, List.set_cons_succ]
        refine r_skip (by kernel_rfl) ?_
        simp only [Act.put, List.setIfInBounds_toArray, List.set_cons_zero, List.set_cons_succ]
        refine r_skip (by kernel_rfl) ?_
        simp only [Act.put, List.setIfInBounds_toArray, List.set_cons_zero, List.set_cons_succ]
        refine r_val (v := ?qv25) (by kernel_rfl) (fun W hW => ?qh25) ?qr25
        case qh25 =>
          go_light
          go_simp
          rfl
        simp only [Act.put, List.setIfInBounds_toArray, List.set_cons_zero, List.set_cons_succ]
        refine r_nil ?_
        intro w8 hw8
        have HW9 := Lib.hid hw8
        clear hw8
        go_wp2
        go_ret
        exact ⟨by rw [HM.out]; rfl, (HG.out.trans HgB.out).trans HW9.out⟩
      by_cases m3 : x2 < 1
      · have HM : Hid (mayS l = false) := Lib.hid (mayS_step hlt (by rw [Hst.out.2, one_no (.inr (.inr (.inl m3)))]; rfl))
        have t1 : ¬ (x1 : Int) < 1 := by omega
        have t2 : ¬ (16777216 : Int) < (x1 : Int) := by omega
        have t5 : (x2 : Int) < 1 := by omega
        have t3 : decide ((x1 : Int) < 1) = false := decide_eq_false t1
        have t4 : decide ((16777216 : Int) < (x1 : Int)) = false := decide_eq_false t2
        have t6 : decide ((x2 : Int) < 1) = true := decide_eq_true t5
        clear Hst hlt m1 m2 m3
        refine region_R (by kernel_rfl) (by kernel_rfl) ?_
        refine r_val (v := ?qv26) (by kernel_rfl) (fun W hW => ?qh26) ?qr26
        case qh26 =>
          go_light
          go_simp
          rfl
        simp only [Act.put, List.setIfInBounds_toArray, List.set_cons_zero, List.set_cons_succ]
        refine r_val (v := ?qv27) (by kernel_rfl) (fun W hW => ?qh27) ?qr27
        case qh27 =>
          have g := (Below.cell hW (p := ⟨B4, 0, none⟩) hz4).trans e0
          go_light
          go_simp
          rfl
        simp only [Act.put, List.setIfInBounds_toArray, List.set_cons_zero, List.set_cons_succ]
        refine r_val (v := ?qv28) (by kernel_rfl) (fun W hW => ?qh28) ?qr28
        case qh28 =>
          go_light
          go_simp
          rfl
        simp only [Act.put, List.setIfInBounds_toArray, List.set_cons_zero, List.set_cons_succ]
        refine r_val (v := ?qv29) (by kernel_rfl) (fun W hW => ?qh29) ?qr29
        case qh29 =>
          go_light
          go_simp
          rfl
        simp only [Act.put, List.setIfInBounds_toArray, List.set_cons_zero, List.set_cons_succ]
        refine r_val (v := ?qv30) (by kernel_rfl) (fun W hW => ?qh30) ?qr30
        case qh30 =>
          go_light
          go_simp
          rfl
        simp only [Act.put, List.setIfInBounds_toArray, List.set_cons_zero, List.set_cons_succ]
        refine r_val (v := ?qv31) (by kernel_rfl) (fun W hW => ?qh31) ?qr31
        case qh31 =>
          have g := (Below.cell hW (p := ⟨B4, 0, none⟩) hz4).trans e0
          go_light
          go_simp
          rfl
        simp only [Act.put, List.setIfInBounds_toArray, List.set_cons_zero, List.set_cons_succ]
        refine r_val (v := ?qv32) (by kernel_rfl) (fun W hW => ?qh32) ?qr32
        case qh32 =>
          go_light
          go_simp
          rfl
        simp only [Act.put, List.setIfInBounds_toArray, List.set_cons_zero, List.set_cons_succ]
        refine r_val (v := ?qv33) (by kernel_rfl) (fun W hW => ?qh33) ?qr33
        case qh33 =>
          go_light
          go_simp
          rfl
        simp only [Act.put, List.setIfInBounds_toArray, List.set_cons_zero, List.set_cons_succ]
        refine r_val (v := ?qv34) (by kernel_rfl) (fun W hW => ?qh34) ?qr34
        case qh34 =>
          go_light
          go_simp
          rfl
        simp only [Act.put, List.setIfInBounds_toArray, List.set_cons_zero, List.set_cons_succ]
        refine r_val (v := ?qv35) (by kernel_rfl) (fun W hW => ?qh35) ?qr35
        case qh35 =>
          go_light
          go_simp
          rfl
        simp only [Act.put, List.setIfInBounds_toArray, List.set_cons_zero, List.set_cons_succ]
        refine r_val (v := ?qv36) (by kernel_rfl) (fun W hW => ?qh36) ?qr36
        case qh36 =>
          have g := (Below.cell hW (p := ⟨B4, 1, none⟩) hz4).trans e1
          go_light
          go_simp
          rfl
        simp only [Act.put, List.setIfInBounds_toArray, List.set_cons_zero, List.set_cons_succ]
        refine r_val (v := ?qv37) (by kernel_rfl) (fun W hW => ?qh37) ?qr37
        case qh37 =>
          go_light
          go_simp
          rfl
        simp only [Act.put, List.setIfInBounds_toArray, List.set_cons_zero, List.set_cons_succ]
        refine r_val (v := ?qv38) (by kernel_rfl) (fun W hW => ?qh38) ?qr38
        case qh38 =>
          go_light
          go_simp
          rfl
        simp only [Act.put, List.setIfInBounds_toArray, List.set_cons_zero, List.set_cons_succ]
        refine r_val (v := ?qv39) (by kernel_rfl) (fun W hW => ?qh39) ?qr39
        case qh39 =>
          go_light
          go_simp
          rfl
        simp only [Act.put, List.setIfInBounds_toArray, List.set_cons_zero, List.set_cons_succ]
        refine r_skip (by kernel_rfl) ?_
        simp only [Act.put, List.setIfInBounds_toArray, List.set_cons_zero, List.set_cons_succ]
        refine r_skip (by kernel_rfl) ?_
        simp only [Act.put, List.setIfInBounds_toArray, List.set_cons_zero, List.set_cons_succ]
        refine r_skip (by kernel_rfl) ?_
        simp only [Act.put, List.setIfInBounds_toArray, List.set_cons_zero, List.set_cons_succ]
        refine r_val (v := ?qv40) (by kernel_rfl) (fun W hW => ?qh40) ?qr40
        case qh40 =>
          go_light
          go_simp
          rfl
        simp only [Act.put, List.setIfInBounds_toArray, List.set_cons_zero, List.set_cons_succ]
        refine r_val (v := ?qv41) (by kernel_rfl) (fun W hW => ?qh41) ?qr41
        case qh41 =>
          go_light
          go_simp
          rfl
        simp only [Act.put, List.setIfInBounds_toArray, List.set_cons_zero, List.set_cons_succ]
        refine r_skip (by kernel_rfl) ?_
        simp only [Act.put, List.setIfInBounds_toArray, List.set_cons_zero, List.set_cons_succ]
        refine r_skip (by kernel_rfl) ?_
        simp only [Act.put, List.setIfInBounds_toArray, List.set_cons_zero, List.set_cons_succ]
        refine r_skip (by kernel_rfl) ?_
        simp only [Act.put, List.setIfInBounds_toArray, List.set_cons_zero, List.set_cons_succ]
        refine r_skip (by kernel_rfl) ?_
        simp only [Act.put, List.setIfInBounds_toArray, List.set_cons_zero, List.set_cons_succ]
        refine r_skip (by kernel_rfl) ?_
        simp only [Act.put, List.setIfInBounds_toArray, List.set_cons_zero, List.set_cons_succ]
        refine r_skip (by kernel_rfl) ?_
        simp only [Act.put, List.setIfInBounds_toArray, List.set_cons_zero, List.set_cons_succ]
        refine r_skip (by kernel_rfl) ?_
        simp only [Act.put, List.setIfInBounds_toArray, List.set_cons_zero, List.set_cons_succ]
        refine r_skip (by kernel_rfl) ?_
        simp only [Act.put, List.setIfInBounds_toArray, List.set_cons_zero, List.set_cons_succ]
        refine r_skip (by kernel_rfl) ?_
        simp only [Act.put, List.setIfInBounds_toArray, List.set_cons_zero, List.set_cons_succ]
        refine r_skip (by kernel_rfl) ?_
        simp only [Act.put, List.setIfInBounds_toArray, List.set_cons_zero, List.set_cons_succ]
        refine r_skip (by kernel_rfl) ?_
        simp only [Act.put, List.setIfInBounds_toArray, List.set_cons_zero, List.set_cons_succ]
        refine r_skip (by kernel_rfl) ?_
        simp only [Act.put, List.setIfInBounds_toArray, List.set_cons_zero, List.set_cons_succ]
        refine r_skip (by kernel_rfl) ?_
        simp only [Act.put, List.setIfInBounds_toArray, List.set_cons_zero, List.set_cons_succ]
        refine r_val (v := ?qv42) (by kernel_rfl) (fun W hW => ?qh42) ?qr42
        case qh42 =>
          go_light
          go_simp
          rfl
        simp only [Act.put, List.setIfInBounds_toArray, List.set_cons_zero, List.set_cons_succ]
        refine r_nil ?_
        intro w8 hw8
        have HW9 := Lib.hid hw8
        clear hw8
        go_wp2
        go_ret
        exact ⟨by rw [HM.out]; rfl, (HG.out.trans HgB.out).trans HW9.out⟩
      have t1 : ¬ (x1 : Int) < 1 := by omega
      have t2 : ¬ (16777216 : Int) < (x1 : Int) := by omega
      have t5 : ¬ (x2 : Int) < 1 := by omega
      have t3 : decide ((x1 : Int) < 1) = false := decide_eq_false t1
      have t4 : decide ((16777216 : Int) < (x1 : Int)) = false := decide_eq_false t2
      have t6 : decide ((x2 : Int) < 1) = false := decide_eq_false t5
      by_cases m4 : 16777216 < x2
      · have HM : Hid (mayS l = false) := Lib.hid (mayS_step hlt (by rw [Hst.out.2, one_no (.inr (.inr (.inr m4)))]; rfl))
        have t7 : (16777216 : Int) < (x2 : Int) := by omega
        have t8 : decide ((16777216 : Int) < (x2 : Int)) = true := decide_eq_true t7
        clear Hst hlt m1 m2 m3 m4
        refine region_R (by kernel_rfl) (by kernel_rfl) ?_
        refine r_val (v := ?qv43) (by kernel_rfl) (fun W hW => ?qh43) ?qr43
        case qh43 =>
          go_light
          go_simp
          rfl
        simp only [Act.put, List.setIfInBounds_toArray, List.set_cons_zero, List.set_cons_succ]
        refine r_val (v := ?qv44) (by kernel_rfl) (fun W hW => ?qh44) ?qr44
        case qh44 =>
          have g := (Below.cell hW (p := ⟨B4, 0, none⟩) hz4).trans e0
          go_light
          go_simp
          rfl
        simp only [Act.put, List.setIfInBounds_toArray, List.set_cons_zero, List.set_cons_succ]
        refine r_val (v := ?qv45) (by kernel_rfl) (fun W hW => ?qh45) ?qr45
        case qh45 =>
          go_light
          go_simp
          rfl
        simp only [Act.put, List.setIfInBounds_toArray, List.set_cons_zero, List.set_cons_succ]
        refine r_val (v := ?qv46) (by kernel_rfl) (fun W hW => ?qh46) ?qr46
        case qh46 =>
          go_light
          go_simp
          rfl
        simp only [Act.put, List.setIfInBounds_toArray, List.set_cons_zero, List.set_cons_succ]
        refine r_val (v := ?qv47) (by kernel_rfl) (fun W hW => ?qh47) ?qr47
        case qh47 =>
          go_light
          go_simp
          rfl
        simp only [Act.put, List.setIfInBounds_toArray, List.set_cons_zero, List.set_cons_succ]
        refine r_val (v := ?qv48) (by kernel_rfl) (fun W hW => ?qh48) ?qr48
        case qh48 =>
          have g := (Below.cell hW (p := ⟨B4, 0, none⟩) hz4).trans e0
          go_light
          go_simp
          rfl
        simp only [Act.put, List.setIfInBounds_toArray, List.set_cons_zero, List.set_cons_succ]
        refine r_val (v := ?qv49) (by kernel_rfl) (fun W hW => ?qh49) ?qr49
        case qh49 =>
          go_light
          go_simp
          rfl
        simp only [Act.put, List.setIfInBounds_toArray, List.set_cons_zero, List.set_cons_succ]
        refine r_val (v := ?qv50) (by kernel_rfl) (fun W hW => ?qh50) ?qr50
        case qh50 =>
          go_light
          go_simp
          rfl
        simp only [Act.put, List.setIfInBounds_toArray, List.set_cons_zero, List.set_cons_succ]
        refine r_val (v := ?qv51) (by kernel_rfl) (fun W hW => ?qh51) ?qr51
        case qh51 =>
          go_light
          go_simp
          rfl
        simp only [Act.put, List.setIfInBounds_toArray, List.set_cons_zero, List.set_cons_succ]
        refine r_val (v := ?qv52) (by kernel_rfl) (fun W hW => ?qh52) ?qr52
        case qh52 =>
          go_light
          go_simp
          rfl
        simp only [Act.put, List.setIfInBounds_toArray, List.set_cons_zero, List.set_cons_succ]
        refine r_val (v := ?qv53) (by kernel_rfl) (fun W hW => ?qh53) ?qr53
        case qh53 =>
          have g := (Below.cell hW (p := ⟨B4, 1, none⟩) hz4).trans e1
          go_light
          go_simp
          rfl
        simp only [Act.put, List.setIfInBounds_toArray, List.set_cons_zero, List.set_cons_succ]
        refine r_val (v := ?qv54) (by kernel_rfl) (fun W hW => ?qh54) ?qr54
        case qh54 =>
          go_light
          go_simp
          rfl
        simp only [Act.put, List.setIfInBounds_toArray, List.set_cons_zero, List.set_cons_succ]
        refine r_val (v := ?qv55) (by kernel_rfl) (fun W hW => ?qh55) ?qr55
        case qh55 =>
          go_light
          go_simp
          rfl
        simp only [Act.put, List.setIfInBounds_toArray, List.set_cons_zero, List.set_cons_succ]
        refine r_val (v := ?qv56) (by kernel_rfl) (fun W hW => ?qh56) ?qr56
        case qh56 =>
          go_light
          go_simp
          rfl
        simp only [Act.put, List.setIfInBounds_toArray, List.set_cons_zero, List.set_cons_succ]
        refine r_val (v := ?qv57) (by kernel_rfl) (fun W hW => ?qh57) ?qr57
        case qh57 =>
          go_light
          go_simp
          rfl
        simp only [Act.put, List.setIfInBounds_toArray, List.set_cons_zero, List.set_cons_succ]
        refine r_val (v := ?qv58) (by kernel_rfl) (fun W hW => ?qh58) ?qr58
        case qh58 =>
          have g := (Below.cell hW (p := ⟨B4, 1, none⟩) hz4).trans e1
          go_light
          go_simp
          rfl
        simp only [Act.put, List.setIfInBounds_toArray, List.set_cons_zero, List.set_cons_succ]
        refine r_val (v := ?qv59) (by kernel_rfl) (fun W hW => ?qh59) ?qr59
        case qh59 =>
          go_light
          go_simp
          rfl
        simp only [Act.put, List.setIfInBounds_toArray, List.set_cons_zero, List.set_cons_succ]
        refine r_val (v := ?qv60) (by kernel_rfl) (fun W hW => ?qh60) ?qr60
        case qh60 =>
          go_light
          go_simp
          rfl
        simp only [Act.put, List.setIfInBounds_toArray, List.set_cons_zero, List.set_cons_succ]
        refine r_val (v := ?qv61) (by kernel_rfl) (fun W hW => ?qh61) ?qr61
        case qh61 =>
          go_light
          go_simp
          rfl
        simp only [Act.put, List.setIfInBounds_toArray, List.set_cons_zero, List.set_cons_succ]
        refine r_skip (by kernel_rfl) ?_
        simp only [Act.put, List.setIfInBounds_toArray, List.set_cons_zero, List.set_cons_succ]
        refine r_skip (by kernel_rfl) ?_
        simp only [Act.put, List.setIfInBounds_toArray, List.set_cons_zero, List.set_cons_succ]
        refine r_skip (by kernel_rfl) ?_
        simp only [Act.put, List.setIfInBounds_toArray, List.set_cons_zero, List.set_cons_succ]
        refine r_skip (by kernel_rfl) ?_
        simp only [Act.put, List.setIfInBounds_toArray, List.set_cons_zero, List.set_cons_succ]
        refine r_skip (by kernel_rfl) ?_
        simp only [Act.put, List.setIfInBounds_toArray, List.set_cons_zero, List.set_cons_succ]
        refine r_skip (by kernel_rfl) ?_
        simp only [Act.put, List.setIfInBounds_toArray, List.set_cons_zero, List.set_cons_succ]
        refine r_skip (by kernel_rfl) ?_
        simp only [Act.put, List.setIfInBounds_toArray, List.set_cons_zero, List.set_cons_succ]
        refine r_skip (by kernel_rfl) ?_
        simp only [Act.put, List.setIfInBounds_toArray, List.set_cons_zero, List.set_cons_succ]
        refine r_skip (by kernel_rfl) ?_
        simp only [Act.put, List.setIfInBounds_toArray, List.set_cons_zero, List.set_cons_succ]
        refine r_skip (by kernel_rfl) ?_
        simp only [Act.put, List.setIfInBounds_toArray, List.set_cons_zero, List.set_cons_succ]
        refine r_skip (by kernel_rfl) ?_
        simp only [Act.put, List.setIfInBounds_toArray, List.set_cons_zero, List.set_cons_succ]
        refine r_skip (by kernel_rfl) ?_
        simp only [Act.put, List.setIfInBounds_toArray, List.set_cons_zero, List.set_cons_succ]
        refine r_skip (by kernel_rfl) ?_
        simp only [Act.put, List.setIfInBounds_toArray, List.set_cons_zero, List.set_cons_succ]
        refine r_val (v := ?qv62) (by kernel_rfl) (fun W hW => ?qh62) ?qr62
        case qh62 =>
          go_light
          go_simp
          rfl
        simp only [Act.put, List.setIfInBounds_toArray, List.set_cons_zero, List.set_cons_succ]
        refine r_nil ?_
        intro w8 hw8
        have HW9 := Lib.hid hw8
        clear hw8
        go_wp2
        go_ret
        exact ⟨by rw [HM.out]; rfl, (HG.out.trans HgB.out).trans HW9.out⟩
      have t7 : ¬ (16777216 : Int) < (x2 : Int) := by omega
      have t8 : decide ((16777216 : Int) < (x2 : Int)) = false := decide_eq_false t7
      have hone : oneOk (x1, x2) = true := oneOk_iff.2 ⟨by simp only; omega, by simp only; omega, by simp only; omega, by simp only; omega⟩
      have Hone := Lib.hid hone
      rcases k with _ | j
      · have HT : Hid (stepOk l 0 = true) := Lib.hid (by rw [Hst.out.2, hone]; rfl)
        clear hone m1 m2 m3 m4
        have z1 : decide ((0 : Int) < ((0 : Nat) : Int)) = false := by decide
        refine region_R (by kernel_rfl) (by kernel_rfl) ?_
        refine r_val (v := ?qv96) (by kernel_rfl) (fun W hW => ?qh96) ?qr96
        case qh96 =>
          go_light
          go_simp
          rfl
        simp only [Act.put, List.setIfInBounds_toArray, List.set_cons_zero, List.set_cons_succ]
        refine r_val (v := ?qv97) (by kernel_rfl) (fun W hW => ?qh97) ?qr97
        case qh97 =>
          have g := (Below.cell hW (p := ⟨B4, 0, none⟩) hz4).trans e0
          go_light
          go_simp
          rfl
        simp only [Act.put, List.setIfInBounds_toArray, List.set_cons_zero, List.set_cons_succ]
        refine r_val (v := ?qv98) (by kernel_rfl) (fun W hW => ?qh98) ?qr98
        case qh98 =>
          go_light
          go_simp
          rfl
        simp only [Act.put, List.setIfInBounds_toArray, List.set_cons_zero, List.set_cons_succ]
        refine r_val (v := ?qv99) (by kernel_rfl) (fun W hW => ?qh99) ?qr99
        case qh99 =>
          go_light
          go_simp
          rfl
        simp only [Act.put, List.setIfInBounds_toArray, List.set_cons_zero, List.set_cons_succ]
        refine r_val (v := ?qv100) (by kernel_rfl) (fun W hW => ?qh100) ?qr100
        case qh100 =>
          go_light
          go_simp
          rfl
        simp only [Act.put, List.setIfInBounds_toArray, List.set_cons_zero, List.set_cons_succ]
        refine r_val (v := ?qv101) (by kernel_rfl) (fun W hW => ?qh101) ?qr101
        case qh101 =>
          have g := (Below.cell hW (p := ⟨B4, 0, none⟩) hz4).trans e0
          go_light
          go_simp
          rfl
        simp only [Act.put, List.setIfInBounds_toArray, List.set_cons_zero, List.set_cons_succ]
        refine r_val (v := ?qv102) (by kernel_rfl) (fun W hW => ?qh102) ?qr102
        case qh102 =>
          go_light
          go_simp
          rfl
        simp only [Act.put, List.setIfInBounds_toArray, List.set_cons_zero, List.set_cons_succ]
        refine r_val (v := ?qv103) (by kernel_rfl) (fun W hW => ?qh103) ?qr103
        case qh103 =>
          go_light
          go_simp
          rfl
        simp only [Act.put, List.setIfInBounds_toArray, List.set_cons_zero, List.set_cons_succ]
        refine r_val (v := ?qv104) (by kernel_rfl) (fun W hW => ?qh104) ?qr104
        case qh104 =>
          go_light
          go_simp
          rfl
        simp only [Act.put, List.setIfInBounds_toArray, List.set_cons_zero, List.set_cons_succ]
        refine r_val (v := ?qv105) (by kernel_rfl) (fun W hW => ?qh105) ?qr105
        case qh105 =>
          go_light
          go_simp
          rfl
        simp only [Act.put, List.setIfInBounds_toArray, List.set_cons_zero, List.set_cons_succ]
        refine r_val (v := ?qv106) (by kernel_rfl) (fun W hW => ?qh106) ?qr106
        case qh106 =>
          have g := (Below.cell hW (p := ⟨B4, 1, none⟩) hz4).trans e1
          go_light
          go_simp
          rfl
        simp only [Act.put, List.setIfInBounds_toArray, List.set_cons_zero, List.set_cons_succ]
        refine r_val (v := ?qv107) (by kernel_rfl) (fun W hW => ?qh107) ?qr107
        case qh107 =>
          go_light
          go_simp
          rfl
        simp only [Act.put, List.setIfInBounds_toArray, List.set_cons_zero, List.set_cons_succ]
        refine r_val (v := ?qv108) (by kernel_rfl) (fun W hW => ?qh108) ?qr108
        case qh108 =>
          go_light
          go_simp
          rfl
        simp only [Act.put, List.setIfInBounds_toArray, List.set_cons_zero, List.set_cons_succ]
        refine r_val (v := ?qv109) (by kernel_rfl) (fun W hW => ?qh109) ?qr109
        case qh109 =>
          go_light
          go_simp
          rfl
        simp only [Act.put, List.setIfInBounds_toArray, List.set_cons_zero, List.set_cons_succ]
        refine r_val (v := ?qv110) (by kernel_rfl) (fun W hW => ?qh110) ?qr110
        case qh110 =>
          go_light
          go_simp
          rfl
        simp only [Act.put, List.setIfInBounds_toArray, List.set_cons_zero, List.set_cons_succ]
        refine r_val (v := ?qv111) (by kernel_rfl) (fun W hW => ?qh111) ?qr111
        case qh111 =>
          have g := (Below.cell hW (p := ⟨B4, 1, none⟩) hz4).trans e1
          go_light
          go_simp
          rfl
        simp only [Act.put, List.setIfInBounds_toArray, List.set_cons_zero, List.set_cons_succ]
        refine r_val (v := ?qv112) (by kernel_rfl) (fun W hW => ?qh112) ?qr112
        case qh112 =>
          go_light
          go_simp
          rfl
        simp only [Act.put, List.setIfInBounds_toArray, List.set_cons_zero, List.set_cons_succ]
        refine r_val (v := ?qv113) (by kernel_rfl) (fun W hW => ?qh113) ?qr113
        case qh113 =>
          go_light
          go_simp
          rfl
        simp only [Act.put, List.setIfInBounds_toArray, List.set_cons_zero, List.set_cons_succ]
        refine r_val (v := ?qv114) (by kernel_rfl) (fun W hW => ?qh114) ?qr114
        case qh114 =>
          go_light
          go_simp
          rfl
        simp only [Act.put, List.setIfInBounds_toArray, List.set_cons_zero, List.set_cons_succ]
        refine r_val (v := ?qv115) (by kernel_rfl) (fun W hW => ?qh115) ?qr115
        case qh115 =>
          go_light
          go_simp
          rfl
        simp only [Act.put, List.setIfInBounds_toArray, List.set_cons_zero, List.set_cons_succ]
        refine r_val (v := ?qv116) (by kernel_rfl) (fun W hW => ?qh116) ?qr116
        case qh116 =>
          go_light
          go_simp
          rfl
        simp only [Act.put, List.setIfInBounds_toArray, List.set_cons_zero, List.set_cons_succ]
        refine r_val (v := ?qv117) (by kernel_rfl) (fun W hW => ?qh117) ?qr117
        case qh117 =>
          go_light
          go_simp
          rfl
        simp only [Act.put, List.setIfInBounds_toArray, List.set_cons_zero, List.set_cons_succ]
        refine r_skip (by kernel_rfl) ?_
        simp only [Act.put, List.setIfInBounds_toArray, List.set_cons_zero, List.set_cons_succ]
        refine r_skip (by kernel_rfl) ?_
        simp only [Act.put, List.setIfInBounds_toArray, List.set_cons_zero, List.set_cons_succ]
        refine r_skip (by kernel_rfl) ?_
        simp only [Act.put, List.setIfInBounds_toArray, List.set_cons_zero, List.set_cons_succ]
        refine r_skip (by kernel_rfl) ?_
        simp only [Act.put, List.setIfInBounds_toArray, List.set_cons_zero, List.set_cons_succ]
        refine r_skip (by kernel_rfl) ?_
        simp only [Act.put, List.setIfInBounds_toArray, List.set_cons_zero, List.set_cons_succ]
        refine r_skip (by kernel_rfl) ?_
        simp only [Act.put, List.setIfInBounds_toArray, List.set_cons_zero, List.set_cons_succ]
        refine r_skip (by kernel_rfl) ?_
        simp only [Act.put, List.setIfInBounds_toArray, List.set_cons_zero, List.set_cons_succ]
        refine r_skip (by kernel_rfl) ?_
        simp only [Act.put, List.setIfInBounds_toArray, List.set_cons_zero, List.set_cons_succ]
        refine r_skip (by kernel_rfl) ?_
        simp only [Act.put, List.setIfInBounds_toArray, List.set_cons_zero, List.set_cons_succ]
        refine r_val (v := ?qv118) (by kernel_rfl) (fun W hW => ?qh118) ?qr118
        case qh118 =>
          go_light
          go_simp
          rfl
        simp only [Act.put, List.setIfInBounds_toArray, List.set_cons_zero, List.set_cons_succ]
        refine r_val (v := ?qv119) (by kernel_rfl) (fun W hW => ?qh119) ?qr119
        case qh119 =>
          go_light
          go_simp
          rfl
        simp only [Act.put, List.setIfInBounds_toArray, List.set_cons_zero, List.set_cons_succ]
        refine r_nil ?_
        intro w8 hw8
        have e1a := (Below.cell hw8 (p := ⟨B4, 1, none⟩) hz4).trans e1
        have hz8 := Nat.lt_of_lt_of_le hz4 hw8.size
        have c2a := (Below.cell hw8 (p := ⟨w.heap.size, 2, none⟩) hzw).trans c2
        have H8w := Lib.hid (HgB.out.trans hw8)
        clear e0 e1 c2 hz4 hw8
        go_wp2
        go_roundw
        case rel => exact ⟨0 + 1, by omega, by go_num, (fun i hi => by rcases Nat.lt_succ_iff_lt_or_eq.1 hi with h | h; exact Hall.out i h; rw [h]; exact HT.out), H8w.out⟩
        case measure => simp [intOf]; omega
      · have hj : j < l.length := by omega
        obtain ⟨p0, p1⟩ := Hc'.out j hj
        have hone1 : oneOk l[j] = true := by
          have := Hall.out j (Nat.lt_succ_self _)
          rw [stepOk_at hj, Bool.and_eq_true] at this
          exact this.1
        obtain ⟨y, hy⟩ : ∃ y, y = l[j] := ⟨_, rfl⟩
        have hst := Hst.out.2
        simp only [Nat.add_sub_cancel] at hst
        rw [← hy] at hone1 p0 p1 hst
        obtain ⟨F, hF⟩ : ∃ F, F = fitsS y (x1, x2) := ⟨_, rfl⟩
        have hst2 : stepOk l (j + 1) = F := by rw [hst, hone, hF]; simp
        have hcall := fun W => whead_fits y (x1, x2) hone1 hone W
        rw [← hF] at hcall
        obtain ⟨y1, y2⟩ := y
        simp only at p0 p1 hcall
        have HCALL := Lib.hid hcall
        have HST := Lib.hid hst2
        have z1 : decide ((0 : Int) < (j : Int) + 1) = true := by rw [decide_eq_true_eq]; omega
        have z2 : (0 : Int) < (j : Int) + 1 := by omega
        have hji : (j : Int) ≤ 400 := by omega
        have zw : IntKind.i64.wrap (j : Int) = (j : Int) := IntWalk.i64_in (j : Int) (by omega)
        have hjl : (j : Int) < (l.length : Int) := by omega
        clear hone hone1 hF hst hst2 hcall hy hj m1 m2 m3 m4
        cases F with
        | false =>
          have HM : Hid (mayS l = false) := Lib.hid (mayS_step hlt HST.out)
          clear Hst hlt
          refine region_R (by kernel_rfl) (by kernel_rfl) ?_
          refine r_val (v := ?qv63) (by kernel_rfl) (fun W hW => ?qh63) ?qr63
          case qh63 =>
            go_light
            go_simp
            rfl
          simp only [Act.put, List.setIfInBounds_toArray, List.set_cons_zero, List.set_cons_succ]
          refine r_val (v := ?qv64) (by kernel_rfl) (fun W hW => ?qh64) ?qr64
          case qh64 =>
            have g := (Below.cell hW (p := ⟨B4, 0, none⟩) hz4).trans e0
            go_light
            go_simp
            rfl
          simp only [Act.put, List.setIfInBounds_toArray, List.set_cons_zero, List.set_cons_succ]
          refine r_val (v := ?qv65) (by kernel_rfl) (fun W hW => ?qh65) ?qr65
          case qh65 =>
            go_light
            go_simp
            rfl
          simp only [Act.put, List.setIfInBounds_toArray, List.set_cons_zero, List.set_cons_succ]
          refine r_val (v := ?qv66) (by kernel_rfl) (fun W hW => ?qh66) ?qr66
          case qh66 =>
            go_light
            go_simp
            rfl
          simp only [Act.put, List.setIfInBounds_toArray, List.set_cons_zero, List.set_cons_succ]
          refine r_val (v := ?qv67) (by kernel_rfl) (fun W hW => ?qh67) ?qr67
          case qh67 =>
            go_light
            go_simp
            rfl
          simp only [Act.put, List.setIfInBounds_toArray, List.set_cons_zero, List.set_cons_succ]
          refine r_val (v := ?qv68) (by kernel_rfl) (fun W hW => ?qh68) ?qr68
          case qh68 =>
            have g := (Below.cell hW (p := ⟨B4, 0, none⟩) hz4).trans e0
            go_light
            go_simp
            rfl
          simp only [Act.put, List.setIfInBounds_toArray, List.set_cons_zero, List.set_cons_succ]
          refine r_val (v := ?qv69) (by kernel_rfl) (fun W hW => ?qh69) ?qr69
          case qh69 =>
            go_light
            go_simp
            rfl
          simp only [Act.put, List.setIfInBounds_toArray, List.set_cons_zero, List.set_cons_succ]
          refine r_val (v := ?qv70) (by kernel_rfl) (fun W hW => ?qh70) ?qr70
          case qh70 =>
            go_light
            go_simp
            rfl
          simp only [Act.put, List.setIfInBounds_toArray, List.set_cons_zero, List.set_cons_succ]
          refine r_val (v := ?qv71) (by kernel_rfl) (fun W hW => ?qh71) ?qr71
          case qh71 =>
            go_light
            go_simp
            rfl
          simp only [Act.put, List.setIfInBounds_toArray, List.set_cons_zero, List.set_cons_succ]
          refine r_val (v := ?qv72) (by kernel_rfl) (fun W hW => ?qh72) ?qr72
          case qh72 =>
            go_light
            go_simp
            rfl
          simp only [Act.put, List.setIfInBounds_toArray, List.set_cons_zero, List.set_cons_succ]
          refine r_val (v := ?qv73) (by kernel_rfl) (fun W hW => ?qh73) ?qr73
          case qh73 =>
            have g := (Below.cell hW (p := ⟨B4, 1, none⟩) hz4).trans e1
            go_light
            go_simp
            rfl
          simp only [Act.put, List.setIfInBounds_toArray, List.set_cons_zero, List.set_cons_succ]
          refine r_val (v := ?qv74) (by kernel_rfl) (fun W hW => ?qh74) ?qr74
          case qh74 =>
            go_light
            go_simp
            rfl
          simp only [Act.put, List.setIfInBounds_toArray, List.set_cons_zero, List.set_cons_succ]
          refine r_val (v := ?qv75) (by kernel_rfl) (fun W hW => ?qh75) ?qr75
          case qh75 =>
            go_light
            go_simp
            rfl
          simp only [Act.put, List.setIfInBounds_toArray, List.set_cons_zero, List.set_cons_succ]
          refine r_val (v := ?qv76) (by kernel_rfl) (fun W hW => ?qh76) ?qr76
          case qh76 =>
            go_light
            go_simp
            rfl
          simp only [Act.put, List.setIfInBounds_toArray, List.set_cons_zero, List.set_cons_succ]
          refine r_val (v := ?qv77) (by kernel_rfl) (fun W hW => ?qh77) ?qr77
          case qh77 =>
            go_light
            go_simp
            rfl
          simp only [Act.put, List.setIfInBounds_toArray, List.set_cons_zero, List.set_cons_succ]
          refine r_val (v := ?qv78) (by kernel_rfl) (fun W hW => ?qh78) ?qr78
          case qh78 =>
            have g := (Below.cell hW (p := ⟨B4, 1, none⟩) hz4).trans e1
            go_light
            go_simp
            rfl
          simp only [Act.put, List.setIfInBounds_toArray, List.set_cons_zero, List.set_cons_succ]
          refine r_val (v := ?qv79) (by kernel_rfl) (fun W hW => ?qh79) ?qr79
          case qh79 =>
            go_light
            go_simp
            rfl
          simp only [Act.put, List.setIfInBounds_toArray, List.set_cons_zero, List.set_cons_succ]
          refine r_val (v := ?qv80) (by kernel_rfl) (fun W hW => ?qh80) ?qr80
          case qh80 =>
            go_light
            go_simp
            rfl
          simp only [Act.put, List.setIfInBounds_toArray, List.set_cons_zero, List.set_cons_succ]
          refine r_val (v := ?qv81) (by kernel_rfl) (fun W hW => ?qh81) ?qr81
          case qh81 =>
            go_light
            go_simp
            rfl
          simp only [Act.put, List.setIfInBounds_toArray, List.set_cons_zero, List.set_cons_succ]
          refine r_val (v := ?qv82) (by kernel_rfl) (fun W hW => ?qh82) ?qr82
          case qh82 =>
            go_light
            go_simp
            rfl
          simp only [Act.put, List.setIfInBounds_toArray, List.set_cons_zero, List.set_cons_succ]
          refine r_val (v := ?qv83) (by kernel_rfl) (fun W hW => ?qh83) ?qr83
          case qh83 =>
            go_light
            go_simp
            rfl
          simp only [Act.put, List.setIfInBounds_toArray, List.set_cons_zero, List.set_cons_succ]
          refine r_val (v := ?qv84) (by kernel_rfl) (fun W hW => ?qh84) ?qr84
          case qh84 =>
            go_light
            go_simp
            rfl
          simp only [Act.put, List.setIfInBounds_toArray, List.set_cons_zero, List.set_cons_succ]
          refine r_val (v := ?qv85) (by kernel_rfl) (fun W hW => ?qh85) ?qr85
          case qh85 =>
            go_light
            go_simp
            rfl
          simp only [Act.put, List.setIfInBounds_toArray, List.set_cons_zero, List.set_cons_succ]
          refine r_val (v := ?qv86) (by kernel_rfl) (fun W hW => ?qh86) ?qr86
          case qh86 =>
            have g := (Below.cell hW (p := ⟨w.heap.size, 2, none⟩) hzw).trans c2
            go_light
            go_simp
            rfl
          simp only [Act.put, List.setIfInBounds_toArray, List.set_cons_zero, List.set_cons_succ]
          refine r_val (v := ?qv87) (by kernel_rfl) (fun W hW => ?qh87) ?qr87
          case qh87 =>
            go_light
            go_simp
            rfl
          simp only [Act.put, List.setIfInBounds_toArray, List.set_cons_zero, List.set_cons_succ]
          refine r_val (v := ?qv88) (by kernel_rfl) (fun W hW => ?qh88) ?qr88
          case qh88 =>
            go_light
            go_simp
            rfl
          simp only [Act.put, List.setIfInBounds_toArray, List.set_cons_zero, List.set_cons_succ]
          refine r_val (v := ?qv89) (by kernel_rfl) (fun W hW => ?qh89) ?qr89
          case qh89 =>
            go_light
            go_simp
            rfl
          simp only [Act.put, List.setIfInBounds_toArray, List.set_cons_zero, List.set_cons_succ]
          refine r_val (v := ?qv90) (by kernel_rfl) (fun W hW => ?qh90) ?qr90
          case qh90 =>
            have g := (Below.cell hW (p := ⟨b, j * 2, none⟩) hbw).trans p0
            have g2 := (Below.cell hW (p := ⟨b, j * 2 + 1, none⟩) hbw).trans p1
            go_light
            go_simp
            rfl
          simp only [Act.put, List.setIfInBounds_toArray, List.set_cons_zero, List.set_cons_succ]
          refine r_val (v := ?qv91) (by kernel_rfl) (fun W hW => ?qh91) ?qr91
          case qh91 =>
            have g := (Below.cell hW (p := ⟨B4, 0, none⟩) hz4).trans e0
            have g2 := (Below.cell hW (p := ⟨B4, 1, none⟩) hz4).trans e1
            go_light
            go_simp
            rfl
          simp only [Act.put, List.setIfInBounds_toArray, List.set_cons_zero, List.set_cons_succ]
          refine r_call (v := .bool false) (f := ?qf92) (args := ?qa92) (by kernel_rfl) (fun W hW => ?qh92) (fun W hW => ?qc92) ?qr92
          case qh92 =>
            go_light
            go_simp
            constructor
            · rfl
            · rfl
          case qc92 => exact (HCALL.out _).mono (fun e w' h => ⟨h.1, Gr.trans hW h.2⟩)
          simp only [Act.put, List.setIfInBounds_toArray, List.set_cons_zero, List.set_cons_succ]
          refine r_val (v := ?qv93) (by kernel_rfl) (fun W hW => ?qh93) ?qr93
          case qh93 =>
            go_light
            go_simp
            rfl
          simp only [Act.put, List.setIfInBounds_toArray, List.set_cons_zero, List.set_cons_succ]
          refine r_val (v := ?qv94) (by kernel_rfl) (fun W hW => ?qh94) ?qr94
          case qh94 =>
            go_light
            go_simp
            rfl
          simp only [Act.put, List.setIfInBounds_toArray, List.set_cons_zero, List.set_cons_succ]
          refine r_val (v := ?qv95) (by kernel_rfl) (fun W hW => ?qh95) ?qr95
          case qh95 =>
            go_light
            go_simp
            rfl
          simp only [Act.put, List.setIfInBounds_toArray, List.set_cons_zero, List.set_cons_succ]
          refine r_nil ?_
          intro w8 hw8
          have HW9 := Lib.hid hw8
          clear hw8
          go_wp2
          go_ret
          exact ⟨by rw [HM.out]; rfl, (HG.out.trans HgB.out).trans HW9.out⟩
        | true =>
          refine region_R (by kernel_rfl) (by kernel_rfl) ?_
          refine r_val (v := ?qv120) (by kernel_rfl) (fun W hW => ?qh120) ?qr120
          case qh120 =>
            go_light
            go_simp
            rfl
          simp only [Act.put, List.setIfInBounds_toArray, List.set_cons_zero, List.set_cons_succ]
          refine r_val (v := ?qv121) (by kernel_rfl) (fun W hW => ?qh121) ?qr121
          case qh121 =>
            have g := (Below.cell hW (p := ⟨B4, 0, none⟩) hz4).trans e0
            go_light
            go_simp
            rfl
          simp only [Act.put, List.setIfInBounds_toArray, List.set_cons_zero, List.set_cons_succ]
          refine r_val (v := ?qv122) (by kernel_rfl) (fun W hW => ?qh122) ?qr122
          case qh122 =>
            go_light
            go_simp
            rfl
          simp only [Act.put, List.setIfInBounds_toArray, List.set_cons_zero, List.set_cons_succ]
          refine r_val (v := ?qv123) (by kernel_rfl) (fun W hW => ?qh123) ?qr123
          case qh123 =>
            go_light
            go_simp
            rfl
          simp only [Act.put, List.setIfInBounds_toArray, List.set_cons_zero, List.set_cons_succ]
          refine r_val (v := ?qv124) (by kernel_rfl) (fun W hW => ?qh124) ?qr124
          case qh124 =>
            go_light
            go_simp
            rfl
          simp only [Act.put, List.setIfInBounds_toArray, List.set_cons_zero, List.set_cons_succ]
          refine r_val (v := ?qv125) (by kernel_rfl) (fun W hW => ?qh125) ?qr125
          case qh125 =>
            have g := (Below.cell hW (p := ⟨B4, 0, none⟩) hz4).trans e0
            go_light
            go_simp
            rfl
          simp only [Act.put, List.setIfInBounds_toArray, List.set_cons_zero, List.set_cons_succ]
          refine r_val (v := ?qv126) (by kernel_rfl) (fun W hW => ?qh126) ?qr126
          case qh126 =>
            go_light
            go_simp
            rfl
          simp only [Act.put, List.setIfInBounds_toArray, List.set_cons_zero, List.set_cons_succ]
          refine r_val (v := ?qv127) (by kernel_rfl) (fun W hW => ?qh127) ?qr127
          case qh127 =>
            go_light
            go_simp
            rfl
          simp only [Act.put, List.setIfInBounds_toArray, List.set_cons_zero, List.set_cons_succ]
          refine r_val (v := ?qv128) (by kernel_rfl) (fun W hW => ?qh128) ?qr128
          case qh128 =>
            go_light
            go_simp
            rfl
          simp only [Act.put, List.setIfInBounds_toArray, List.set_cons_zero, List.set_cons_succ]
          refine r_val (v := ?qv129) (by kernel_rfl) (fun W hW => ?qh129) ?qr129
          case qh129 =>
            go_light
            go_simp
            rfl
          simp only [Act.put, List.setIfInBounds_toArray, List.set_cons_zero, List.set_cons_succ]
          refine r_val (v := ?qv130) (by kernel_rfl) (fun W hW => ?qh130) ?qr130
          case qh130 =>
            have g := (Below.cell hW (p := ⟨B4, 1, none⟩) hz4).trans e1
            go_light
            go_simp
            rfl
          simp only [Act.put, List.setIfInBounds_toArray, List.set_cons_zero, List.set_cons_succ]
          refine r_val (v := ?qv131) (by kernel_rfl) (fun W hW => ?qh131) ?qr131
          case qh131 =>
            go_light
            go_simp
            rfl
          simp only [Act.put, List.setIfInBounds_toArray, List.set_cons_zero, List.set_cons_succ]
          refine r_val (v := ?qv132) (by kernel_rfl) (fun W hW => ?qh132) ?qr132
          case qh132 =>
            go_light
            go_simp
            rfl
          simp only [Act.put, List.setIfInBounds_toArray, List.set_cons_zero, List.set_cons_succ]
          refine r_val (v := ?qv133) (by kernel_rfl) (fun W hW => ?qh133) ?qr133
          case qh133 =>
            go_light
            go_simp
            rfl
          simp only [Act.put, List.setIfInBounds_toArray, List.set_cons_zero, List.set_cons_succ]
          refine r_val (v := ?qv134) (by kernel_rfl) (fun W hW => ?qh134) ?qr134
          case qh134 =>
            go_light
            go_simp
            rfl
          simp only [Act.put, List.setIfInBounds_toArray, List.set_cons_zero, List.set_cons_succ]
          refine r_val (v := ?qv135) (by kernel_rfl) (fun W hW => ?qh135) ?qr135
          case qh135 =>
            have g := (Below.cell hW (p := ⟨B4, 1, none⟩) hz4).trans e1
            go_light
            go_simp
            rfl
          simp only [Act.put, List.setIfInBounds_toArray, List.set_cons_zero, List.set_cons_succ]
          refine r_val (v := ?qv136) (by kernel_rfl) (fun W hW => ?qh136) ?qr136
          case qh136 =>
            go_light
            go_simp
            rfl
          simp only [Act.put, List.setIfInBounds_toArray, List.set_cons_zero, List.set_cons_succ]
          refine r_val (v := ?qv137) (by kernel_rfl) (fun W hW => ?qh137) ?qr137
          case qh137 =>
            go_light
            go_simp
            rfl
          simp only [Act.put, List.setIfInBounds_toArray, List.set_cons_zero, List.set_cons_succ]
          refine r_val (v := ?qv138) (by kernel_rfl) (fun W hW => ?qh138) ?qr138
          case qh138 =>
            go_light
            go_simp
            rfl
          simp only [Act.put, List.setIfInBounds_toArray, List.set_cons_zero, List.set_cons_succ]
          refine r_val (v := ?qv139) (by kernel_rfl) (fun W hW => ?qh139) ?qr139
          case qh139 =>
            go_light
            go_simp
            rfl
          simp only [Act.put, List.setIfInBounds_toArray, List.set_cons_zero, List.set_cons_succ]
          refine r_val (v := ?qv140) (by kernel_rfl) (fun W hW => ?qh140) ?qr140
          case qh140 =>
            go_light
            go_simp
            rfl
          simp only [Act.put, List.setIfInBounds_toArray, List.set_cons_zero, List.set_cons_succ]
          refine r_val (v := ?qv141) (by kernel_rfl) (fun W hW => ?qh141) ?qr141
          case qh141 =>
            go_light
            go_simp
            rfl
          simp only [Act.put, List.setIfInBounds_toArray, List.set_cons_zero, List.set_cons_succ]
          refine r_val (v := ?qv142) (by kernel_rfl) (fun W hW => ?qh142) ?qr142
          case qh142 =>
            go_light
            go_simp
            rfl
          simp only [Act.put, List.setIfInBounds_toArray, List.set_cons_zero, List.set_cons_succ]
          refine r_val (v := ?qv143) (by kernel_rfl) (fun W hW => ?qh143) ?qr143
          case qh143 =>
            have g := (Below.cell hW (p := ⟨w.heap.size, 2, none⟩) hzw).trans c2
            go_light
            go_simp
            rfl
          simp only [Act.put, List.setIfInBounds_toArray, List.set_cons_zero, List.set_cons_succ]
          refine r_val (v := ?qv144) (by kernel_rfl) (fun W hW => ?qh144) ?qr144
          case qh144 =>
            go_light
            go_simp
            rfl
          simp only [Act.put, List.setIfInBounds_toArray, List.set_cons_zero, List.set_cons_succ]
          refine r_val (v := ?qv145) (by kernel_rfl) (fun W hW => ?qh145) ?qr145
          case qh145 =>
            go_light
            go_simp
            rfl
          simp only [Act.put, List.setIfInBounds_toArray, List.set_cons_zero, List.set_cons_succ]
          refine r_val (v := ?qv146) (by kernel_rfl) (fun W hW => ?qh146) ?qr146
          case qh146 =>
            go_light
            go_simp
            rfl
          simp only [Act.put, List.setIfInBounds_toArray, List.set_cons_zero, List.set_cons_succ]
          refine r_val (v := ?qv147) (by kernel_rfl) (fun W hW => ?qh147) ?qr147
          case qh147 =>
            have g := (Below.cell hW (p := ⟨b, j * 2, none⟩) hbw).trans p0
            have g2 := (Below.cell hW (p := ⟨b, j * 2 + 1, none⟩) hbw).trans p1
            go_light
            go_simp
            rfl
          simp only [Act.put, List.setIfInBounds_toArray, List.set_cons_zero, List.set_cons_succ]
          refine r_val (v := ?qv148) (by kernel_rfl) (fun W hW => ?qh148) ?qr148
          case qh148 =>
            have g := (Below.cell hW (p := ⟨B4, 0, none⟩) hz4).trans e0
            have g2 := (Below.cell hW (p := ⟨B4, 1, none⟩) hz4).trans e1
            go_light
            go_simp
            rfl
          simp only [Act.put, List.setIfInBounds_toArray, List.set_cons_zero, List.set_cons_succ]
          refine r_call (v := .bool true) (f := ?qf149) (args := ?qa149) (by kernel_rfl) (fun W hW => ?qh149) (fun W hW => ?qc149) ?qr149
          case qh149 =>
            go_light
            go_simp
            constructor
            · rfl
            · rfl
          case qc149 => exact (HCALL.out _).mono (fun e w' h => ⟨h.1, Gr.trans hW h.2⟩)
          simp only [Act.put, List.setIfInBounds_toArray, List.set_cons_zero, List.set_cons_succ]
          refine r_val (v := ?qv150) (by kernel_rfl) (fun W hW => ?qh150) ?qr150
          case qh150 =>
            go_light
            go_simp
            rfl
          simp only [Act.put, List.setIfInBounds_toArray, List.set_cons_zero, List.set_cons_succ]
          refine r_val (v := ?qv151) (by kernel_rfl) (fun W hW => ?qh151) ?qr151
          case qh151 =>
            go_light
            go_simp
            rfl
          simp only [Act.put, List.setIfInBounds_toArray, List.set_cons_zero, List.set_cons_succ]
          refine r_val (v := ?qv152) (by kernel_rfl) (fun W hW => ?qh152) ?qr152
          case qh152 =>
            go_light
            go_simp
            rfl
          simp only [Act.put, List.setIfInBounds_toArray, List.set_cons_zero, List.set_cons_succ]
          refine r_nil ?_
          intro w8 hw8
          have e1a := (Below.cell hw8 (p := ⟨B4, 1, none⟩) hz4).trans e1
          have hz8 := Nat.lt_of_lt_of_le hz4 hw8.size
          have c2a := (Below.cell hw8 (p := ⟨w.heap.size, 2, none⟩) hzw).trans c2
          have H8w := Lib.hid (HgB.out.trans hw8)
          clear e0 e1 c2 hz4 hw8
          go_wp2
          go_roundw
          case rel => exact ⟨j + 1 + 1, by omega, by go_num, (fun i hi => by rcases Nat.lt_succ_iff_lt_or_eq.1 hi with h | h; exact Hall.out i h; rw [h]; exact HST.out), H8w.out⟩
          case measure => simp [intOf]; omega
    · have hkk : k = l.length := by omega
      subst hkk
      have hx := H8.out.1
      obtain ⟨m, hm⟩ : ∃ m, l.length = m + 1 := ⟨l.length - 1, by omega⟩
      have hml : m < l.length := by omega
      obtain ⟨b, rfl, hb, hc⟩ := (HR.out.gr hgr) hx
      obtain ⟨d0, d1⟩ := hc m hml
      have hlast : lastS l = l[m] := by rw [lastS_at hx]; congr 1; omega
      have hone : ∀ j (h : j < l.length), oneOk l[j] = true := fun j h => by
        have := Hall.out j h
        rw [stepOk_at h, Bool.and_eq_true] at this
        exact this.1
      have hle2 : ∀ a ∈ l, a.2 ≤ 16777216 := fun a ha => by
        obtain ⟨j, h, rfl⟩ := List.mem_iff_getElem.1 ha
        exact (oneOk_iff.1 (hone j h)).2.2.2
      have hol := oneOk_iff.1 (hone m hml)
      have hrest := fun h => mayS_rest hx H8.out.2 Hall.out h
      rw [hlast] at hrest
      obtain ⟨x1, hx1⟩ : ∃ x, x = l[m].1 := ⟨_, rfl⟩
      obtain ⟨x2, hx2⟩ : ∃ x, x = l[m].2 := ⟨_, rfl⟩
      rw [← hx1] at d0 hol hrest
      rw [← hx2] at d1 hol hrest
      have hw := prod_small (x1 : Int) x2 (by omega) (by omega) (by omega) (by omega)
      have Hrest := Lib.hid hrest
      have Hrr := Lib.hid (HR.out.gr hgr)
      clear hx1 hx2 hlast hone hol hrest hc hx
      rw [hm] at c2 ⊢
      have hmi : (m : Int) ≤ 400 := by omega
      have zm : IntKind.i64.wrap (m : Int) = (m : Int) := IntWalk.i64_in (m : Int) (by omega)
      clear hlt h1 h2 hml
      go_upto_region 10 with (fail)
      obtain ⟨wC, hwC⟩ : ∃ wC, wC = wr.alloc (.cells #[.int .i64 x1, .int .i64 x2] 44) := ⟨_, rfl⟩
      have gC : Gr wr wC := by rw [hwC]; exact Gr.alloc (Gr.refl wr) _
      have hz5 : wr.heap.size < wC.heap.size := by rw [hwC]; simp
      have e0 : wC.cell? ⟨wr.heap.size, 0, none⟩ = some (.int .i64 x1) := by rw [hwC]; go_simp
      have e1 : wC.cell? ⟨wr.heap.size, 1, none⟩ = some (.int .i64 x2) := by rw [hwC]; go_simp
      rw [← hwC]
      have c0' := (Below.cell (hgr.trans gC) (p := ⟨w.heap.size, 0, none⟩) hz).trans c0
      have c1' := (Below.cell (hgr.trans gC) (p := ⟨w.heap.size, 1, none⟩) hz).trans c1
      have c2' := (Below.cell gC (p := ⟨w.heap.size, 2, none⟩) hzw).trans c2
      have HRC := Lib.hid (Hrr.out.gr gC)
      have HGC := Lib.hid (hgr.trans gC)
      generalize wr.heap.size = B5 at hz5 e0 e1 ⊢
      clear hwC gC c0 c1 c2 d0 d1 hb
      have hcs := fun W hW => whead_size (some ⟨b, 0, none⟩) c l H8.out.2 hle2 W hW
      obtain ⟨S, hS⟩ : ∃ S, S = sizeS l := ⟨_, rfl⟩
      rw [← hS, hm] at hcs
      have HCS := Lib.hid hcs
      have HSS := Lib.hid hS
      clear hcs hS hle2 hm hgr
      by_cases s1 : 1048576 < S
      · have s2 : (1048576 : Int) < (S : Int) := by omega
        have HM : Hid (mayS l = false) := Lib.hid (mayS_size (by rw [← HSS.out]; exact s1))
        clear s1
        go_wp2_with (go_at_call 29; refine (HCS.out _ HRC.out).mono ?_; rintro e wD ⟨rfl, gD⟩; have e0b := (Below.cell gD (p := ⟨B5, 0, none⟩) hz5).trans e0; have e1b := (Below.cell gD (p := ⟨B5, 1, none⟩) hz5).trans e1; clear e0 e1; have GD := Lib.hid gD; clear gD)
        go_ret
        exact ⟨by rw [HM.out]; rfl, (HG.out.trans HGC.out).trans GD.out⟩
      · have s2 : ¬ (1048576 : Int) < (S : Int) := by omega
        have hM := Hrest.out (by rw [← HSS.out]; omega)
        clear s1
        by_cases u1 : x1 * x2 ≤ maxTime
        · have u2 : ¬ (4294967295 : Int) < (x1 : Int) * (x2 : Int) := by rw [← Int.natCast_mul]; unfold maxTime at u1; omega
          have u3 : decide ((4294967295 : Int) < (x1 : Int) * (x2 : Int)) = false := decide_eq_false u2
          have HM : Hid (mayS l = true) := Lib.hid (by rw [hM, Nat.ble_eq]; exact u1)
          clear u1 hM
          go_wp2_with (go_at_call 29; refine (HCS.out _ HRC.out).mono ?_; rintro e wD ⟨rfl, gD⟩; have e0b := (Below.cell gD (p := ⟨B5, 0, none⟩) hz5).trans e0; have e1b := (Below.cell gD (p := ⟨B5, 1, none⟩) hz5).trans e1; clear e0 e1; have GD := Lib.hid gD; clear gD)
          go_ret
          exact ⟨by rw [HM.out]; rfl, (HG.out.trans HGC.out).trans GD.out⟩
        · have u2 : (4294967295 : Int) < (x1 : Int) * (x2 : Int) := by rw [← Int.natCast_mul]; unfold maxTime at u1; omega
          have u3 : decide ((4294967295 : Int) < (x1 : Int) * (x2 : Int)) = true := decide_eq_true u2
          have HM : Hid (mayS l = false) := Lib.hid (by rw [hM, Bool.eq_false_iff, ne_eq, Nat.ble_eq]; exact u1)
          clear u1 hM
          go_wp2_with (go_at_call 29; refine (HCS.out _ HRC.out).mono ?_; rintro e wD ⟨rfl, gD⟩; have e0b := (Below.cell gD (p := ⟨B5, 0, none⟩) hz5).trans e0; have e1b := (Below.cell gD (p := ⟨B5, 1, none⟩) hz5).trans e1; clear e0 e1; have GD := Lib.hid gD; clear gD)
          go_ret
          exact ⟨by rw [HM.out]; rfl, (HG.out.trans HGC.out).trans GD.out⟩
end Go.Proofs.YtfnpmdcbhjabmaaDoor
