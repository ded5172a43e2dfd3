/- Laying a point: (*whisper.file).lays. · A file's bytes opened: whisper.open; isNow. · A file's header is found again in its bytes, plainly; laying points leaves it alone. · What slots hold behind a point that was laid, plainly. -/
import Derived.Test.YtoncapkmaeghfaaRunWiGat
import Derived.Test.YtoncapkmaeghfaaRunWhSpan
namespace Go.Proofs.Ytoncapkmaeghfaa
set_option linter.unusedVariables false
set_option linter.unusedSimpArgs false
open Go.RowKit

/-- a point was laid, or not. -/
def RetLa (w : World) (X F P M : Nat) (R : Option Nat) (room : Int) (nn ag xf b c : Nat) (m : Arcs) (g d : Nat) (D : List UInt8) (o : Option (List UInt8)) (e : Ending) (w' : World) : Prop :=
 e = .returned (.bool o.isSome) ∧ ∃ R' n', n' ≤ nn ∧ FiM w' X F P M R' room n' ag xf b c m g d (o.getD D) ∧ Kp (Tcg P M R g) w w' ∧ ∀ j, R' = some j → R = some j ∨ w.heap.size ≤ j
theorem upS_zero (ag xf : Int) (m : Arcs) (t : Int) (i : Nat) (D : List UInt8) : upS ag xf m t i 0 D = D := rfl
theorem upS_none {ag xf : Int} {m : Arcs} {t : Int} {i k : Nat} {D : List UInt8} (h : gathS ag xf m D i t = none) : upS ag xf m t i (k + 1) D = D := by rw [upS, h]
theorem upS_some {ag xf : Int} {m : Arcs} {t : Int} {i k : Nat} {D D' : List UInt8} (h : gathS ag xf m D i t = some D') : upS ag xf m t i (k + 1) D = upS ag xf m t (i + 1) k D' := by rw [upS, h]
theorem field_ok (vo : Bool) (vn : Int) (W : World) : (Instr.field 47 (.agg #[.bool vo, .int .i64 vn]) 0).run Try.prog W = .ok (.bool vo) W := by kernel_rfl
theorem tcg_sub {P M g Z : Nat} {R Rq : Option Nat} (h : ∀ z, Rq = some z → R = some z ∨ Z ≤ z) : ∀ i, i < Z → Tcg P M Rq g i → Tcg P M R g i := fun i hi e => by
 rcases e with (e | e | e) | e
 ·
  exact .inl (.inl e)
 ·
  exact .inl (.inr (.inl e))
 ·
  rcases h i e with e | e
  ·
   exact .inl (.inr (.inr e))
  ·
   omega
 ·
  exact .inr e
set_option maxRecDepth 100000 in
set_option maxHeartbeats 6400000 in
theorem wlays_any {X F P M : Nat} {R : Option Nat} {room : Int} {n ag xf b c : Nat} {m : Arcs} {g d : Nat} {D : List UInt8} (t v now : Int) (hnow : now ≤ 4294967295) (hn : n ≤ 998900) (w : World) (h : FiM w X F P M R room n ag xf b c m g d D) : Calls Try.prog 26 #[.pointer (some ⟨X, 0, none⟩), .agg #[.int .i64 t, .int .i64 v], .int .i64 now] w (RetLa w X F P M R room (n + 27) ag xf b c m g d D (laysS ag xf m D t v now)) := by
 obtain ⟨V, hV⟩ : ∃ V, V = w.alloc (.cells #[.int .i64 t, .int .i64 v] 26) := ⟨_, rfl⟩
 have gV : Gr w V := by rw [hV]; exact Gr.alloc (Gr.refl w) _
 have hz : w.heap.size < V.heap.size := by rw [hV]; simp
 have b0 : V.cell? ⟨w.heap.size, 0, none⟩ = some (.int .i64 t) := by rw [hV]; go_simp
 have b1 : V.cell? ⟨w.heap.size, 1, none⟩ = some (.int .i64 v) := by rw [hV]; go_simp
 obtain ⟨o, ho⟩ : ∃ o, o = laysS ag xf m D t v now := ⟨_, rfl⟩
 rw [← ho]
 have HNO : Hid (∀ W, Gr w W → o = none → ∃ R' n', n' ≤ n + 27 ∧ FiM W X F P M R' room n' ag xf b c m g d (o.getD D) ∧ Kp (Tcg P M R g) w W ∧ ∀ j, R' = some j → R = some j ∨ w.heap.size ≤ j) := Lib.hid (fun W gW e => ⟨R, n, by omega, by rw [e]; exact h.gr gW, Kp.of_gr _ gW, fun _ e => .inl e⟩)
 have HV := Lib.hid hV
 have HGV := Lib.hid gV
 have H0 := Lib.hid h
 have HX2 : Hid (∀ W, Gr V W → W.cell? ⟨X, 2, none⟩ = some (.slice (some ⟨b, 0, none⟩) m.length c)) := Lib.hid fun W gW => ((h.gr gV).gr gW).x2
 have hF := MayF.ofH h.may
 have HF := Lib.hid hF
 have hm8 : (m.length : Int) ≤ 8 := by have := hF.l8; omega
 clear hV gV h hF
 by_cases ht1 : t < 1
 ·
  have HN := Lib.hid (show o = none by rw [ho]; unfold laysS; rw [if_pos (.inl ht1)])
  clear ho
  go_enter Try.func26, Try.ntmps26
  go_upto_region 1 with (fail)
  rw [← HV.out]
  clear HV
  go_wp2
  go_ret
  exact ⟨ret_b (by rw [HN.out]; rfl), HNO.out _ (HGV.out) HN.out⟩
 by_cases htn : now < t
 ·
  have HN := Lib.hid (show o = none by rw [ho]; unfold laysS; rw [if_pos (.inr (.inl htn))])
  clear ho
  go_enter Try.func26, Try.ntmps26
  go_upto_region 1 with (fail)
  rw [← HV.out]
  clear HV
  go_wp2
  go_ret
  exact ⟨ret_b (by rw [HN.out]; rfl), HNO.out _ (HGV.out) HN.out⟩
 obtain ⟨vo, vn, hv⟩ : ∃ vo vn, ofV v = ⟨vo, vn⟩ := ⟨_, _, rfl⟩
 have HO := Lib.hid (fun W => of_any v W)
 rw [hv] at HO
 have hfd := fun W => field_ok vo vn W
 have hlay : laysS ag xf m D t v now = if vo = false then none else if firstS m t now = m.length then none else if alignS t (stpS m (firstS m t now)) < 1 then none else some (upS ag xf m t (firstS m t now + 1) (m.length - (firstS m t now + 1)) (layS m D (firstS m t now) (alignS t (stpS m (firstS m t now))) v)) := by
  unfold laysS
  rw [hv]
  by_cases hvo : vo = false
  ·
   rw [if_pos (.inr (.inr hvo)), if_pos hvo]
  ·
   rw [if_neg (fun e => by rcases e with e | e | e; exact ht1 e; exact htn e; exact hvo e), if_neg hvo]
 rw [hlay] at ho
 cases vo with
 | false =>
  have HN := Lib.hid (show o = none by rw [ho, if_pos rfl])
  clear ho hlay hv
  go_enter Try.func26, Try.ntmps26
  go_upto_region 1 with (fail)
  rw [← HV.out]
  clear HV
  go_wp2_with (go_at_call 45; refine (HO.out _).mono ?_; rintro e w1 ⟨rfl, g1⟩; have HG1 := Lib.hid g1; have e0 := (Below.cell g1 (p := ⟨w.heap.size, 0, none⟩) hz).trans b0; have e1 := (Below.cell g1 (p := ⟨w.heap.size, 1, none⟩) hz).trans b1; have hz1 := Nat.lt_of_lt_of_le hz g1.size; clear g1)
  go_ret
  exact ⟨ret_b (by rw [HN.out]; rfl), HNO.out _ (HGV.out.trans HG1.out) HN.out⟩
 | true =>
  rw [if_neg (fun e => by cases e)] at ho
  have hfs := fun W (gW : Gr V W) => wfirst_any t now (by omega) (by omega) hnow W ((H0.out.gr HGV.out).gr gW)
  obtain ⟨f, hf⟩ : ∃ f, f = firstS m t now := ⟨_, rfl⟩
  have hfle := firstS_le m t now
  rw [← hf] at hfs ho hfle
  have HFS := Lib.hid hfs
  have hfl : (f : Int) ≤ (m.length : Int) := by omega
  clear hlay hv hfs hf
  by_cases hfm : f = m.length
  ·
   have HN := Lib.hid (show o = none by rw [ho, if_pos hfm])
   have hfe : ((f : Int) == (m.length : Int)) = true := by rw [hfm]; simp
   clear ho hfm
   go_enter Try.func26, Try.ntmps26
   go_upto_region 1 with (fail)
   rw [← HV.out]
   clear HV
   go_wp2_with (first | (go_at_call 45; refine (HO.out _).mono ?_; rintro e w1 ⟨rfl, g1⟩; have HG1 := Lib.hid g1; have e0 := (Below.cell g1 (p := ⟨w.heap.size, 0, none⟩) hz).trans b0; have e1 := (Below.cell g1 (p := ⟨w.heap.size, 1, none⟩) hz).trans b1; have hz1 := Nat.lt_of_lt_of_le hz g1.size; clear g1) | (go_at_call 46; refine (HFS.out _ HG1.out).mono ?_; rintro e w2 ⟨rfl, g2⟩; have HG2 := Lib.hid (HG1.out.trans g2); have u0 := (Below.cell g2 (p := ⟨w.heap.size, 0, none⟩) hz1).trans e0; have u1 := (Below.cell g2 (p := ⟨w.heap.size, 1, none⟩) hz1).trans e1; have x2 := (HX2.out _ HG2.out); have hz2 := Nat.lt_of_lt_of_le hz1 g2.size; clear g2))
   go_ret
   exact ⟨ret_b (by rw [HN.out]; rfl), HNO.out _ (HGV.out.trans HG2.out) HN.out⟩
  ·
   rw [if_neg hfm] at ho
   have hfe : ((f : Int) == (m.length : Int)) = false := beq_eq_false_iff_ne.2 (by omega)
   have hfi : f < m.length := by omega
   have hfli : (f : Int) < (m.length : Int) := by omega
   have hst := HF.out.s1 f hfi
   obtain ⟨T, hT⟩ : ∃ T, T = alignS t (stpS m f) := ⟨_, rfl⟩
   have hTf := align_facts (t := t) (step := (stpS m f : Int)) (by omega) (by omega)
   have hal := fun W => align_any t (stpS m f) (by omega) W
   rw [← hT] at hTf hal ho
   have hal2 : ∀ W, Calls Try.prog 28 #[.int .i64 t, .int .i64 (stpS m f)] W fun e w' => e = .returned (.int .i64 T) ∧ Gr W w' := fun W => (hal W).mono fun e w' h => ⟨h.1, by rw [← h.2]; exact Gr.refl _⟩
   have HAL := Lib.hid hal2
   have HAR : Hid (∀ W, Gr V W → W.cell? ⟨b, f * 2, none⟩ = some (.int .i64 (stpS m f : Nat)) ∧ W.cell? ⟨b, f * 2 + 1, none⟩ = some (.int .i64 (cntS m f : Nat))) := Lib.hid fun W gW => ((H0.out.gr HGV.out).gr gW).arc hfi
   have hTi : T ≤ 4611686018427387904 := by omega
   have hT0 : 0 ≤ T := hTf.1
   have HTT := Lib.hid (And.intro hT0 hTi)
   have hwf : IntKind.i64.wrap (f : Int) = (f : Int) := IntWalk.i64_in _ (by omega)
   have ht0 : 0 ≤ t := by omega
   have ht4 : t ≤ 4294967295 := by omega
   have HTM := Lib.hid (And.intro ht0 ht4)
   have HFI := Lib.hid hfi
   clear hT hal hal2 hTf hst hfi ht0 ht4 hfm hfle
   go_enter Try.func26, Try.ntmps26
   go_upto_region 1 with (fail)
   rw [← HV.out]
   clear HV
   go_upto_region 6 with (first | (go_at_call 45; refine (HO.out _).mono ?_; rintro e w1 ⟨rfl, g1⟩; have HG1 := Lib.hid g1; have e0 := (Below.cell g1 (p := ⟨w.heap.size, 0, none⟩) hz).trans b0; have e1 := (Below.cell g1 (p := ⟨w.heap.size, 1, none⟩) hz).trans b1; have hz1 := Nat.lt_of_lt_of_le hz g1.size; clear g1) | (go_at_call 46; refine (HFS.out _ HG1.out).mono ?_; rintro e w2 ⟨rfl, g2⟩; have HG2 := Lib.hid (HG1.out.trans g2); have u0 := (Below.cell g2 (p := ⟨w.heap.size, 0, none⟩) hz1).trans e0; have u1 := (Below.cell g2 (p := ⟨w.heap.size, 1, none⟩) hz1).trans e1; have x2 := (HX2.out _ HG2.out); have hz2 := Nat.lt_of_lt_of_le hz1 g2.size; clear g2))
   clear b0 b1 e0 e1
   refine region_Q (by kernel_rfl) (by kernel_rfl) ?_
   refine q_val (v := ?_) (by rfl) (fun W hW => ?_) ?_; rotate_left; (focus go_simp; rfl); simp only [Pu]
   refine q_val (v := ?qv2) (by rfl) (fun W hW => ?qh2) ?qr2
   case qh2 => have y0 := (Below.cell hW (p := ⟨w.heap.size, 0, none⟩) hz2).trans u0; go_simp; rfl
   simp only [Pu]
   iterate 4 (refine q_val (v := ?_) (by rfl) (fun W hW => ?_) ?_; rotate_left; (focus go_simp; rfl); simp only [Pu])
   refine q_val (v := ?qv7) (by rfl) (fun W hW => ?qh7) ?qr7
   case qh7 => have y2 := HX2.out _ (HG2.out.trans hW); go_simp; rfl
   simp only [Pu]
   iterate 3 (refine q_val (v := ?_) (by rfl) (fun W hW => ?_) ?_; rotate_left; (focus go_simp; rfl); simp only [Pu])
   refine q_val (v := ?qv11) (by rfl) (fun W hW => ?qh11) ?qr11
   case qh11 => obtain ⟨a0, a1⟩ := HAR.out _ (HG2.out.trans hW); go_simp; rfl
   simp only [Pu]
   refine q_call (v := .int .i64 T) (f := ?qf12) (args := ?qa12) (by rfl) (fun W hW => ?qh12) (fun W hW => ?qc12) ?qr12
   case qh12 => go_simp; constructor <;> rfl
   case qc12 => exact (HAL.out W).mono (fun e w' h => ⟨h.1, Gr.trans hW h.2⟩)
   simp only [Pu]
   refine q_val (v := ?_) (by rfl) (fun W hW => ?_) ?_; rotate_left; (focus go_simp; rfl); simp only [Pu]
   refine wpQuiet_nil ?_
   intro w6 g6
   have u1b := (Below.cell g6 (p := ⟨w.heap.size, 1, none⟩) hz2).trans u1
   have u0b := (Below.cell g6 (p := ⟨w.heap.size, 0, none⟩) hz2).trans u0
   have HG6 := Lib.hid (HGV.out.trans (HG2.out.trans g6))
   have HZ6 := Lib.hid (Nat.lt_of_lt_of_le hz2 g6.size)
   have hz6 := Nat.lt_of_lt_of_le hz2 g6.size
   clear g6 u0 u1 hz2 x2
   by_cases hT1 : T < 1
   ·
    have HN := Lib.hid (show o = none by rw [ho, if_pos hT1])
    clear ho
    go_wp2
    go_ret
    exact ⟨ret_b (by rw [HN.out]; rfl), HNO.out _ (HG6.out) HN.out⟩
   ·
    rw [if_neg hT1] at ho
    have HN := Lib.hid ho
    have hTd : decide (T < 1) = false := decide_eq_false hT1
    clear ho
    go_wp2_with (go_at_call 47; refine (wwrites_any f HFI.out T v HTT.out.1 HTT.out.2 (by omega) _ (H0.out.gr HG6.out)).mono ?_; rintro e w7 ⟨rfl, R7, hf7, hk7, hr7⟩; have u0c := (hk7.cell (a := ⟨w.heap.size, 0, none⟩) hz6 (H0.out.old (Nat.le_refl _))).trans u0b; have H7 := Lib.hid (And.intro hf7 (And.intro hk7 hr7)); have hz7 := Nat.lt_of_lt_of_le hz6 hk7.size; clear hf7 hk7 hr7)
    have HST : Hid (f + 1 ≤ f + 1 ∧ f + 1 ≤ m.length ∧ n + 3 + 3 * (m.length - (f + 1)) ≤ n + 27) := Lib.hid ⟨Nat.le_refl _, HFI.out, by have := HF.out.l8; omega⟩
    go_loopw [7] (fun k wr => ∃ (q : Nat) (Rq : Option Nat) (nq : Nat) (Dq : List UInt8), f + 1 ≤ q ∧ q ≤ m.length ∧ k = .int .i64 q ∧ nq + 3 * (m.length - q) ≤ n + 27 ∧ FiM wr X F P M Rq room nq ag xf b c m g d Dq ∧ Kp (Tcg P M R g) w6 wr ∧ (∀ z, Rq = some z → R = some z ∨ w6.heap.size ≤ z) ∧ Hid (o = some (upS ag xf m t q (m.length - q) Dq))) (fun k _ => m.length - (intOf k).toNat)
    case atStart => exact ⟨f + 1, R7, n + 3, layS m D f T v, HST.out.1, HST.out.2.1, by go_num, HST.out.2.2, H7.out.1, H7.out.2.1, H7.out.2.2, HN⟩
    case round =>
     obtain ⟨q, Rq, nq, Dq, hq1, hq2, rfl, hnq, hfi, hkp, hRq, HUP⟩ := hrel
     have y2 := hfi.x2
     have y0 := (hkp.cell (a := ⟨w.heap.size, 0, none⟩) HZ6.out (H0.out.old (Nat.le_refl _))).trans u0b
     have HDONE : Hid (∀ (w9 : World) (R9 : Option Nat) (n9 : Nat) (D9 : List UInt8), n9 ≤ n + 27 → FiM w9 X F P M R9 room n9 ag xf b c m g d D9 → Kp (Tcg P M R g) w6 w9 → (∀ z, R9 = some z → R = some z ∨ w6.heap.size ≤ z) → o = some D9 → o.isSome = true ∧ ∃ R' n', n' ≤ n + 27 ∧ FiM w9 X F P M R' room n' ag xf b c m g d (o.getD D) ∧ Kp (Tcg P M R g) w w9 ∧ ∀ j, R' = some j → R = some j ∨ w.heap.size ≤ j) := Lib.hid (fun w9 R9 n9 D9 e1 e2 e3 e4 e5 => ⟨by rw [e5]; rfl, R9, n9, e1, by rw [e5]; exact e2, (Kp.of_gr _ HG6.out).trans e3 (fun _ _ e => e), fun z hz => (e4 z hz).imp id (fun e => Nat.le_trans HG6.out.size e)⟩)
     by_cases hlt : q < m.length
     ·
      have hlti : (q : Int) < (m.length : Int) := by omega
      obtain ⟨og, hog⟩ : ∃ og, og = gathS ag xf m Dq q t := ⟨_, rfl⟩
      have hga := wgathers_any q hlt (by omega) t HTM.out.1 HTM.out.2 (by omega) wr hfi
      rw [← hog] at hga
      have HGA := Lib.hid hga
      obtain ⟨r, hr⟩ : ∃ r, r = m.length - (q + 1) := ⟨_, rfl⟩
      have hr1 : m.length - q = r + 1 := by omega
      have HLE := Lib.hid (And.intro hq1 (And.intro hlt (And.intro hnq (And.intro hr hr1))))
      have HKP := Lib.hid (And.intro hkp hRq)
      rw [hr1] at HUP
      cases og with
      | none =>
       have HE := Lib.hid (show o = some Dq by rw [HUP.out, upS_none hog.symm])
       clear hga hog hr hr1 hq1 hq2 hnq hkp hRq hfi hlt HUP
       go_wp2_with (go_at_call 48; refine HGA.out.mono ?_; rintro e w8 ⟨rfl, R8, n8, hn8, hf8, hk8, hr8⟩; have H8 := Lib.hid (And.intro hn8 (And.intro hf8 (And.intro hk8 hr8))); clear hn8 hf8 hk8 hr8)
       go_ret
       have h9 := HDONE.out w8 R8 n8 Dq (by have := H8.out.1; have := HLE.out; omega) H8.out.2.1 (HKP.out.1.trans H8.out.2.2.1 (tcg_sub HKP.out.2)) (fun z hz => (H8.out.2.2.2 z hz).elim (HKP.out.2 z) (fun e => .inr (Nat.le_trans HKP.out.1.size e))) HE.out
       exact ⟨ret_b h9.1.symm, h9.2⟩
      | some D8 =>
       have HE : Hid (o = some (upS ag xf m t (q + 1) (m.length - (q + 1)) D8)) := Lib.hid (by rw [HUP.out, upS_some hog.symm, hr])
       clear hga hog hr hr1 hq1 hq2 hnq hkp hRq hfi hlt HUP
       go_wp2_with (go_at_call 48; refine HGA.out.mono ?_; rintro e w8 ⟨rfl, R8, n8, hn8, hf8, hk8, hr8⟩; have H8 := Lib.hid (And.intro hn8 (And.intro hf8 (And.intro hk8 hr8))); clear hn8 hf8 hk8 hr8)
       go_roundw
       case rel => exact ⟨q + 1, R8, n8, D8, by have := HLE.out.1; omega, HLE.out.2.1, by go_num, by have := H8.out.1; have := HLE.out; omega, H8.out.2.1, HKP.out.1.trans H8.out.2.2.1 (tcg_sub HKP.out.2), fun z hz => (H8.out.2.2.2 z hz).elim (HKP.out.2 z) (fun e => .inr (Nat.le_trans HKP.out.1.size e)), HE⟩
       case measure => have := HLE.out.2.1; simp [intOf]; omega
     ·
      have hqe : q = m.length := by omega
      subst hqe
      have hE : o = some Dq := by rw [HUP.out, Nat.sub_self]; rfl
      have h9 := HDONE.out wr Rq nq Dq (by omega) hfi hkp hRq hE
      have H9 := Lib.hid h9
      clear h9 hE hfi hkp hRq hnq
      go_wp2
      go_ret
      exact ⟨ret_b H9.out.1.symm, H9.out.2⟩
end Go.Proofs.Ytoncapkmaeghfaa
namespace Go.Proofs.Ytoncapkmaeghfaa
set_option linter.unusedVariables false
set_option linter.unusedSimpArgs false
open Go.RowKit

/-- the file that bytes are. -/
def opS (D : List UInt8) : Option (Nat × Nat × Arcs) := match decH D with
 | none => none
 | some (ag, xf, m) => if sizeS m = D.length then some (ag, xf, m) else none
theorem decH_may {L : List UInt8} {ag xf : Nat} {m : Arcs} (h : decH L = some (ag, xf, m)) : mayH ag xf (ints m) = true := by
 unfold decH at h
 cases e1 : (Nat.ble 1 (numAt L 3) && Nat.ble (numAt L 3) 8)
 ·
  rw [e1] at h; cases h
 ·
  rw [e1] at h
  cases e2 : (Nat.ble (16 + 12 * numAt L 3) L.length && mayH (numAt L 0) (numAt L 2) (ints (arcsAt L (numAt L 3))) && (hdrS (numAt L 0) (numAt L 2) (arcsAt L (numAt L 3))).isPrefixOf L)
  ·
   rw [e2] at h; cases h
  ·
   rw [e2] at h
   simp only [cond_true, Option.some.injEq, Prod.mk.injEq] at h
   obtain ⟨h1, h2, h3⟩ := h
   rw [Bool.and_eq_true, Bool.and_eq_true] at e2
   rw [← h1, ← h2, ← h3]
   exact e2.1.2
theorem opS_of {D : List UInt8} {ag xf : Nat} {m : Arcs} (h : opS D = some (ag, xf, m)) : decH D = some (ag, xf, m) ∧ sizeS m = D.length ∧ mayH ag xf (ints m) = true := by
 unfold opS at h
 cases e : decH D with
 | none => rw [e] at h; cases h
 | some p =>
  obtain ⟨a, x, l⟩ := p
  rw [e] at h
  simp only at h
  split at h
  ·
   rename_i hs
   simp only [Option.some.injEq, Prod.mk.injEq] at h
   obtain ⟨h1, h2, h3⟩ := h
   subst h1 h2 h3
   exact ⟨rfl, hs, decH_may e⟩
  ·
   cases h
theorem own_capM {w : World} {base g : Nat} {e : TypeId} {size n c : Nat} {xs : List Value} (h : w.ownsRow base e size (.slice (some ⟨g, 0, none⟩) n c) n xs) : (c : Int) ≤ 9223372036854775807 := by
 obtain ⟨h1, ⟨hv, h0⟩ | ⟨g', cap, cur, hv, hb, hh, h2, h3, h4, h5⟩⟩ := h
 ·
  cases hv
 ·
  injection hv with _ _ hv3
  subst hv3
  unfold maxLen at h3
  omega
theorem own_base0 {w : World} {base : Nat} {e : TypeId} {size n : Nat} {v : Value} {xs : List Value} (h : w.ownsRow base e size v n xs) : w.ownsRow 0 e size v n xs := by
 obtain ⟨h1, h | ⟨g', cap, cur, hv, hb, h2⟩⟩ := h
 ·
  exact ⟨h1, .inl h⟩
 ·
  exact ⟨h1, .inr ⟨g', cap, cur, hv, Nat.zero_le _, h2⟩⟩
theorem FsM.more2 {Y : Nat → Prop} {w w' : World} {F P M g : Nat} {R : Option Nat} {room : Int} {n : Nat} {D : Option (List UInt8)} (h : FsM Y w F P M R room n D) (k : Gr w w') (hg : w.heap.size ≤ g ∧ g < w'.heap.size) : FsM (fun k => k = g) w' F P M R room n D :=
 h.more k (fun q e => .inr (by rw [e]; exact hg.1)) (fun q e => by rw [e]; exact hg.2)
/-- a file is opened, or not. -/
def RetOp (w : World) (F P M : Nat) (R : Option Nat) (room : Int) (n : Nat) (D : List UInt8) (o : Option (Nat × Nat × Arcs)) (e : Ending) (w' : World) : Prop :=
 Gr w w' ∧ match o with
  | none => e = .returned (.tuple #[.pointer none, .int .i64 2])
  | some (ag, xf, m) => ∃ X b c g d, e = .returned (.tuple #[.pointer (some ⟨X, 0, none⟩), .int .i64 0]) ∧ FiM w' X F P M R room n ag xf b c m g d D ∧ w.heap.size ≤ g
theorem isNow_any (t : Int) (w : World) : Calls Try.prog 25 #[.int .i64 t] w fun e w' => e = .returned (.bool (decide (1 ≤ t) && decide (t ≤ 4294967295))) ∧ w = w' := by
 by_cases h1 : 1 ≤ t
 ·
  by_cases h2 : t ≤ 4294967295
  ·
   have HD : Hid ((decide (1 ≤ t) && decide (t ≤ 4294967295)) = true) := Lib.hid (by rw [decide_eq_true h1, decide_eq_true h2]; rfl)
   go_enter Try.func25, Try.ntmps25
   go_wp2
   go_ret
   exact ⟨ret_b HD.out.symm, rfl⟩
  ·
   have HD : Hid ((decide (1 ≤ t) && decide (t ≤ 4294967295)) = false) := Lib.hid (by rw [decide_eq_false h2, Bool.and_false])
   go_enter Try.func25, Try.ntmps25
   go_wp2
   go_ret
   exact ⟨ret_b (by first | exact HD.out.symm | (have h := HD.out; rw [decide_eq_true h1, Bool.true_and] at h; exact h.symm)), rfl⟩
 ·
  have HD : Hid ((decide (1 ≤ t) && decide (t ≤ 4294967295)) = false) := Lib.hid (by rw [decide_eq_false h1, Bool.false_and])
  go_enter Try.func25, Try.ntmps25
  go_wp2
  go_ret
  exact ⟨ret_b (by first | exact HD.out.symm | (have h := HD.out; simp at h ⊢; omega)), rfl⟩
set_option maxRecDepth 100000 in
set_option maxHeartbeats 6400000 in
theorem open_gone {Y : Nat → Prop} {F P M : Nat} {R : Option Nat} {room : Int} {n : Nat} (w : World) (h : FsM Y w F P M R room n none) : Calls Try.prog 24 #[.pointer (some ⟨F, 0, none⟩), .string nmA] w fun e w' => e = .returned (.tuple #[.pointer none, .int .i64 5]) ∧ w = w' := by
 have HSI := Lib.hid (size_none w h)
 clear h
 go_enter Try.func24, Try.ntmps24
 go_wp2_with (go_at_call 42; refine HSI.out.mono ?_; rintro e w1 ⟨rfl, rfl⟩)
 go_ret2
 exact ⟨rfl, rfl⟩
set_option maxRecDepth 100000 in
set_option maxHeartbeats 6400000 in
theorem open_any {Y : Nat → Prop} {F P M : Nat} {R : Option Nat} {room : Int} {n : Nat} (D : List UInt8) (hD : (D.length : Int) ≤ 1073741824) (w : World) (h : FsM Y w F P M R room n (some D)) : Calls Try.prog 24 #[.pointer (some ⟨F, 0, none⟩), .string nmA] w (RetOp w F P M R room n D (opS D)) := by
 have HSI := Lib.hid (fsize_some w h)
 have HRD := Lib.hid (read_all hD w h)
 have H0 := Lib.hid h
 have HD := Lib.hid hD
 obtain ⟨oo, hoo⟩ : ∃ oo, oo = opS D := ⟨_, rfl⟩
 rw [← hoo]
 cases hde : decH D with
 | none =>
  have HDE := Lib.hid hde
  have ho : oo = none := by rw [hoo]; unfold opS; rw [hde]
  subst ho
  clear h hde hoo
  go_enter Try.func24, Try.ntmps24
  go_wp2_with (first | (go_at_call 42; refine HSI.out.mono ?_; rintro e w1 ⟨rfl, rfl⟩) | (go_at_call 43; refine HRD.out.mono ?_; rintro e w2 ⟨g, d, rfl, hd, ho, g2⟩; have HO2 := Lib.hid (And.intro hd (And.intro ho g2)); have hgl := ho.lt g rfl; clear ho g2 hd) | (go_at_call 44; refine (hdecode_any w2 (some ⟨g, 0, none⟩) g d D (fun _ => rfl) hgl.2 HD.out HO2.out.1 (own_capM HO2.out.2.1) (Rb.own HO2.out.2.1)).mono ?_; rintro e w3 ⟨g3, h3⟩; rw [HDE.out] at h3; simp only at h3; subst h3; have HG := Lib.hid (HO2.out.2.2.trans g3); clear g3))
  go_ret2
  exact ⟨HG.out.alloc _, rfl⟩
 | some p =>
  obtain ⟨ag, xf, m⟩ := p
  have hM := decH_may hde
  have hF := MayF.ofH hM
  have hsz := hF.sz
  have ho : oo = if sizeS m = D.length then some (ag, xf, m) else none := by rw [hoo]; unfold opS; rw [hde]
  have HDE := Lib.hid hde
  have HM := Lib.hid (And.intro hM hF)
  have hszi : (sizeS m : Int) ≤ 1048576 := by omega
  clear h hde hoo hM hF hsz
  go_enter Try.func24, Try.ntmps24
  go_upto_region 10 with (first | (go_at_call 42; refine HSI.out.mono ?_; rintro e w1 ⟨rfl, rfl⟩) | (go_at_call 43; refine HRD.out.mono ?_; rintro e w2 ⟨g, d, rfl, hd, ho, g2⟩; have HO2 := Lib.hid (And.intro hd (And.intro ho g2)); have hgl := ho.lt g rfl; clear ho g2 hd) | (go_at_call 44; refine (hdecode_any w2 (some ⟨g, 0, none⟩) g d D (fun _ => rfl) hgl.2 HD.out HO2.out.1 (own_capM HO2.out.2.1) (Rb.own HO2.out.2.1)).mono ?_; rintro e w3 ⟨g3, h3⟩; rw [HDE.out] at h3; obtain ⟨A, c, rfl, hc, hri, hfr⟩ := h3; obtain ⟨b, rfl, hbl, -⟩ := hri (by rw [ints_len]; have := HM.out.2.l1; omega); have HB := Lib.hid (And.intro hc (And.intro hri (hfr _ rfl))); have HG := Lib.hid (HO2.out.2.2.trans g3); have HG3 := Lib.hid g3; clear hc hri hfr g3))
  obtain ⟨V, hV⟩ : ∃ V, V = w3.alloc (.cells #[.int .i64 ag, .int .i64 xf, .slice (some ⟨b, 0, none⟩) m.length c] 24) := ⟨_, rfl⟩
  have gV : Gr w3 V := by rw [hV]; exact Gr.alloc (Gr.refl w3) _
  have hz : w3.heap.size < V.heap.size := by rw [hV]; simp
  have c0 : V.cell? ⟨w3.heap.size, 0, none⟩ = some (.int .i64 ag) := by rw [hV]; go_simp
  have c1 : V.cell? ⟨w3.heap.size, 1, none⟩ = some (.int .i64 xf) := by rw [hV]; go_simp
  have c2 : V.cell? ⟨w3.heap.size, 2, none⟩ = some (.slice (some ⟨b, 0, none⟩) m.length c) := by rw [hV]; go_simp
  have hss := hsize_any ag xf (some ⟨b, 0, none⟩) c (ints m) (by rw [ints_len]; have := HM.out.2.l8; omega) V (HB.out.2.1.gr gV)
  rw [HM.out.1, nats_ints, ints_len] at hss
  have HSS := Lib.hid hss
  have HGV := Lib.hid (And.intro gV (HG.out.trans gV))
  have hzw := HG.out.size
  rw [← hV]
  clear hV gV hss
  by_cases hsd : sizeS m = D.length
  ·
   rw [if_pos hsd] at ho
   have hne : ((sizeS m : Int) != (D.length : Int)) = false := by rw [hsd]; simp
   have HSD := Lib.hid hsd
   subst ho
   clear hsd
   go_wp2_with (go_at_call 22; refine HSS.out.mono ?_; rintro e w5 ⟨rfl, g5⟩; have d0 := (Below.cell g5 (p := ⟨w3.heap.size, 0, none⟩) hz).trans c0; have d1 := (Below.cell g5 (p := ⟨w3.heap.size, 1, none⟩) hz).trans c1; have d2 := (Below.cell g5 (p := ⟨w3.heap.size, 2, none⟩) hz).trans c2; have HG5 := Lib.hid (And.intro (HGV.out.1.trans g5) (HGV.out.2.trans g5)); clear g5)
   go_ret2
   obtain ⟨Z, hZ⟩ : ∃ Z, Z = w5.alloc (.cells #[.int .i64 ag, .int .i64 xf, .slice (some ⟨b, 0, none⟩) m.length c, .pointer (some ⟨F, 0, none⟩), .string nmA, .slice (some ⟨g, 0, none⟩) D.length d] 76) := ⟨_, rfl⟩
   have gZ : Gr w5 Z := by rw [hZ]; exact Gr.alloc (Gr.refl w5) _
   have x0 : Z.cell? ⟨w5.heap.size, 0, none⟩ = some (.int .i64 ag) := by rw [hZ]; go_simp
   have x1 : Z.cell? ⟨w5.heap.size, 1, none⟩ = some (.int .i64 xf) := by rw [hZ]; go_simp
   have x2 : Z.cell? ⟨w5.heap.size, 2, none⟩ = some (.slice (some ⟨b, 0, none⟩) m.length c) := by rw [hZ]; go_simp
   have x3 : Z.cell? ⟨w5.heap.size, 3, none⟩ = some (.pointer (some ⟨F, 0, none⟩)) := by rw [hZ]; go_simp
   have x4 : Z.cell? ⟨w5.heap.size, 4, none⟩ = some (.string nmA) := by rw [hZ]; go_simp
   have x5 : Z.cell? ⟨w5.heap.size, 5, none⟩ = some (.slice (some ⟨g, 0, none⟩) D.length d) := by rw [hZ]; go_simp
   have hzZ : w5.heap.size < Z.heap.size := by rw [hZ]; simp
   rw [← hZ]
   have g3Z := HG5.out.1.trans gZ
   have gwZ := HG5.out.2.trans gZ
   have g2Z : Gr w2 Z := HG3.out.trans g3Z
   have lf := H0.out.lf
   have lp := H0.out.lp
   have lm := H0.out.lm
   have hrn : ∀ q, w.heap.size ≤ q → R ≠ some q := fun q hq e => by
    obtain ⟨v, xs, -, v2, v3⟩ := H0.out.p0
    have := (v3.lt q (by rw [v2]; exact e)).2
    omega
   have hw25 : w.heap.size ≤ w5.heap.size := HG5.out.2.size
   have h2 : w.heap.size ≤ w2.heap.size := HO2.out.2.2.size
   have h25 : w2.heap.size ≤ w5.heap.size := (HG3.out.trans HG5.out.1).size
   have hb3 : w3.heap.size ≤ w5.heap.size := HG5.out.1.size
   have hbf : w2.heap.size ≤ b := HB.out.2.2
   refine ⟨gwZ, w5.heap.size, b, c, g, d, rfl, ⟨hzZ, by omega, by omega, x0, x1, x2, x3, x4, x5, HM.out.1, HB.out.1, HSD.out.symm, HB.out.2.1.gr g3Z, own_base0 (own_grU HO2.out.2.1 g2Z), H0.out.more2 gwZ (by omega), ⟨by omega, by omega, by omega, by omega, hrn _ hw25⟩, ⟨by omega, by omega, by omega, by omega, hrn _ (by omega)⟩, ⟨by omega, by omega, by omega, hrn _ hgl.1⟩⟩, hgl.1⟩
  ·
   rw [if_neg hsd] at ho
   have hne : ((sizeS m : Int) != (D.length : Int)) = true := by simp; omega
   subst ho
   clear hsd
   go_wp2_with (go_at_call 22; refine HSS.out.mono ?_; rintro e w5 ⟨rfl, g5⟩; have HG5 := Lib.hid (HGV.out.2.trans g5); clear g5)
   go_ret2
   exact ⟨HG5.out, rfl⟩
end Go.Proofs.Ytoncapkmaeghfaa
namespace Go.Proofs.Ytoncapkmaeghfaa
set_option linter.unusedVariables false
set_option linter.unusedSimpArgs false
open Go.RowKit

/-- the numbers of the archives' rows. -/
def arN (m : Arcs) : Nat → List Nat
 | 0 => []
 | k + 1 => arN m k ++ archN m k
theorem arN_len (m : Arcs) : ∀ k, (arN m k).length = 3 * k
 | 0 => rfl
 | k + 1 => by rw [arN, List.length_append, arN_len m k]; rfl
theorem archsB_four (m : Arcs) : ∀ k, archsB m k = fourS (arN m k)
 | 0 => rfl
 | k + 1 => by rw [arN, fourS_app, ← archsB_four m k]; rfl
theorem arN_at (m : Arcs) (k i j : Nat) (hj : j < k) (hi : i < 3) (d : Nat) : (arN m k).getD (3 * j + i) d = (archN m j).getD i d := by
 induction k with
 | zero => omega
 | succ k ih =>
  rw [arN, List.getD_eq_getElem?_getD, List.getD_eq_getElem?_getD]
  rcases Nat.lt_or_ge j k with h | h
  ·
   rw [List.getElem?_append_left (by rw [arN_len]; omega), ← List.getD_eq_getElem?_getD, ih h, List.getD_eq_getElem?_getD]
  ·
   obtain rfl : j = k := by omega
   rw [List.getElem?_append_right (by rw [arN_len]; omega), arN_len]
   congr 2
   omega
def numsH (ag xf : Nat) (m : Arcs) : List Nat := headN ag xf m ++ arN m m.length
theorem hdrS_four (ag xf : Nat) (m : Arcs) : hdrS ag xf m = fourS (numsH ag xf m) := by unfold hdrS numsH; rw [fourS_app, archsB_four]
theorem numsH_len (ag xf : Nat) (m : Arcs) : (numsH ag xf m).length = 4 + 3 * m.length := by unfold numsH; rw [List.length_append, arN_len]; rfl
theorem numAt_four (l : List Nat) (r : List UInt8) (j : Nat) (hj : j < l.length) (hb : l.getD j 0 < 4294967296) : numAt (fourS l ++ r) j = l.getD j 0 := by
 have hl : l = l.take j ++ (l.getD j 0 :: l.drop (j + 1)) := by
  rw [List.getD_eq_getElem?_getD, List.getElem?_eq_getElem hj, Option.getD_some, ← List.drop_eq_getElem_cons hj, List.take_append_drop]
 unfold numAt
 rw [if_pos (by rw [List.length_append, fourS_len]; omega)]
 have e : fourS l ++ r = fourS (l.take j) ++ (beB (l.getD j 0) 4 ++ (fourS (l.drop (j + 1)) ++ r)) := by
  conv => lhs; rw [hl]
  rw [fourS_app]
  simp only [fourS, List.flatMap_cons, List.append_assoc]
 rw [e, List.drop_left' (by rw [fourS_len, List.length_take]; omega), List.take_left' (beB_len _ _), ofB_beB]
 exact Nat.mod_eq_of_lt hb
theorem numsH_at (ag xf : Nat) (m : Arcs) (i : Nat) (hi : i < 4) : (numsH ag xf m).getD i 0 = (headN ag xf m).getD i 0 := by
 unfold numsH
 rw [List.getD_eq_getElem?_getD, List.getD_eq_getElem?_getD, List.getElem?_append_left (show i < (headN ag xf m).length from hi)]
theorem numsH_arc (ag xf : Nat) (m : Arcs) (i j : Nat) (hj : j < m.length) (hi : i < 3) : (numsH ag xf m).getD (4 + 3 * j + i) 0 = (archN m j).getD i 0 := by
 rw [← arN_at m m.length i j hj hi 0]
 unfold numsH
 rw [List.getD_eq_getElem?_getD, List.getD_eq_getElem?_getD, List.getElem?_append_right (show (headN ag xf m).length ≤ _ by show 4 ≤ _; omega)]
 congr 2
 show 4 + 3 * j + i - 4 = _
 omega
/-- bytes that begin with a header and are of its size. -/
def HdOk (ag xf : Nat) (m : Arcs) (D : List UInt8) : Prop := D.length = sizeS m ∧ ∃ r, D = hdrS ag xf m ++ r
theorem opS_hdr {ag xf : Nat} {m : Arcs} {D : List UInt8} (hM : mayH ag xf (ints m) = true) (h : HdOk ag xf m D) : opS D = some (ag, xf, m) := by
 obtain ⟨hl, r, hr⟩ := h
 have hF := MayF.ofH hM
 have hM2 := hM
 unfold mayH at hM2
 rw [Bool.and_eq_true, decide_eq_true_eq] at hM2
 have hD : D = fourS (numsH ag xf m) ++ r := by rw [hr, hdrS_four]
 have hsp : (lastS m).1 * (lastS m).2 ≤ 4294967295 := hF.last
 have hn : ∀ i, i < 4 → (headN ag xf m).getD i 0 < 4294967296 → numAt D i = (headN ag xf m).getD i 0 := fun i hi hb => by
  rw [hD, numAt_four _ _ _ (by rw [numsH_len]; omega) (by rw [numsH_at _ _ _ _ hi]; exact hb), numsH_at _ _ _ _ hi]
 have n0 : numAt D 0 = ag := hn 0 (by decide) (by show ag < _; omega)
 have n2 : numAt D 2 = xf := hn 2 (by decide) (by show xf < _; omega)
 have n3 : numAt D 3 = m.length := hn 3 (by decide) (by show m.length < _; have := hF.l8; omega)
 have ha : ∀ k, k ≤ m.length → arcsAt D k = m.take k := fun k => by
  induction k with
  | zero => intro _; rfl
  | succ k ih =>
   intro hk
   rw [arcsAt, ih (by omega), List.take_succ_eq_append_getElem (by omega)]
   congr 2
   have hs := hF.s1 k (by omega)
   have hc := hF.c1 k (by omega)
   have q1 : numAt D (4 + 3 * k + 1) = stpS m k := by
    rw [hD, numAt_four _ _ _ (by rw [numsH_len]; omega) (by rw [numsH_arc _ _ _ _ _ (by omega) (by decide)]; show stpS m k < _; omega), numsH_arc _ _ _ _ _ (by omega) (by decide)]
    rfl
   have q2 : numAt D (4 + 3 * k + 2) = cntS m k := by
    rw [hD, numAt_four _ _ _ (by rw [numsH_len]; omega) (by rw [numsH_arc _ _ _ _ _ (by omega) (by decide)]; show cntS m k < _; omega), numsH_arc _ _ _ _ _ (by omega) (by decide)]
    rfl
   unfold arcAt
   rw [q1, q2, stpS_at (by omega), cntS_at (by omega)]
 have ham : arcsAt D m.length = m := by rw [ha _ (Nat.le_refl _), List.take_length]
 have hde : decH D = some (ag, xf, m) := by
  have := decH_yes (L := D) (by rw [n3, hr, List.length_append, hdrS_len]; omega) (by rw [n0, n2, n3, ham]; exact hM) (by rw [n0, n2, n3, ham, List.isPrefixOf_iff_prefix]; exact ⟨r, hr.symm⟩)
  rw [n0, n2, n3, ham] at this
  exact this
 unfold opS
 rw [hde]
 simp only
 rw [if_pos hl.symm]
theorem atS_off {m : Arcs} (i : Nat) (t : Int) : 16 + 12 * m.length ≤ atS m i t := by unfold atS offS; omega
theorem HdOk.lay {ag xf : Nat} {m : Arcs} {D : List UInt8} (h : HdOk ag xf m D) (hF : MayF m) {i : Nat} (hi : i < m.length) (t n : Int) : HdOk ag xf m (layS m D i t n) := by
 refine ⟨layS_len hF h.1 hi t n, ?_⟩
 obtain ⟨hl, r, hr⟩ := h
 have ho := atS_off (m := m) i t
 have hh := hdrS_len ag xf m
 refine ⟨(layS m D i t n).drop (16 + 12 * m.length), ?_⟩
 conv => lhs; rw [← List.take_append_drop (16 + 12 * m.length) (layS m D i t n)]
 congr 1
 unfold layS putB
 rw [List.take_append_of_le_length (by rw [List.length_take]; have := (atS_in hF hi t).2; omega), List.take_take, Nat.min_eq_left ho, hr]
 exact List.take_left' hh
theorem HdOk.up {ag xf : Nat} {m : Arcs} (hF : MayF m) {a x t : Int} : ∀ (k i : Nat) (D : List UInt8), i + k = m.length → HdOk ag xf m D → HdOk ag xf m (upS a x m t i k D)
 | 0, _, _, _, h => h
 | k + 1, i, D, hk, h => by
  rw [upS]
  cases e : gathS a x m D i t with
  | none => exact h
  | some D' =>
   unfold gathS at e
   split at e
   ·
    injection e with e
    exact HdOk.up hF k (i + 1) D' (by omega) (by rw [← e]; exact h.lay hF (by omega) _ _)
   ·
    cases e
theorem HdOk.lays {ag xf : Nat} {m : Arcs} (hF : MayF m) {a x : Int} {D D' : List UInt8} (h : HdOk ag xf m D) {t n now : Int} (e : laysS a x m D t n now = some D') : HdOk ag xf m D' := by
 have hf := firstS_le m t now
 unfold laysS at e
 split at e
 ·
  cases e
 ·
  split at e
  ·
   cases e
  ·
   split at e
   ·
    cases e
   ·
    injection e with e
    rw [← e]
    exact HdOk.up hF _ _ _ (by omega) (h.lay hF (by omega) _ _)
theorem HdOk.upd {ag xf : Nat} {m : Arcs} (hF : MayF m) {a x now : Int} : ∀ (l : List (Int × Int)) (s : Nat × List UInt8), HdOk ag xf m s.2 → HdOk ag xf m (updS a x m now l s).2
 | [], _, h => h
 | p :: r, s, h => by
  rw [updS]
  cases e : laysS a x m s.2 p.1 p.2 now with
  | none => exact HdOk.upd hF r s h
  | some D => exact HdOk.upd hF r _ (HdOk.lays hF h e)
/-- a new file. -/
def newS (ag xf : Nat) (m : Arcs) : List UInt8 := hdrS ag xf m ++ List.replicate (sizeS m - (16 + 12 * m.length)) 0
theorem newS_ok (ag xf : Nat) (m : Arcs) : HdOk ag xf m (newS ag xf m) := by
 refine ⟨?_, _, rfl⟩
 unfold newS
 have := sizeS_eq m
 rw [List.length_append, hdrS_len, List.length_replicate]
 omega
end Go.Proofs.Ytoncapkmaeghfaa
namespace Go.Proofs.Ytoncapkmaeghfaa
set_option linter.unusedVariables false
set_option linter.unusedSimpArgs false
open Go.RowKit

theorem putB_at (l d : List UInt8) (k j : Nat) (h : k + d.length ≤ l.length) : (putB l k d)[j]? = if j < k then l[j]? else if j < k + d.length then d[j - k]? else l[j]? := by
 unfold putB
 have e1 : (l.take k).length = k := by rw [List.length_take]; omega
 by_cases h1 : j < k
 ·
  rw [if_pos h1, List.getElem?_append_left (by omega), List.getElem?_take, if_pos h1]
 ·
  rw [if_neg h1, List.getElem?_append_right (by omega), e1]
  by_cases h2 : j < k + d.length
  ·
   rw [if_pos h2, List.getElem?_append_left (by omega)]
  ·
   rw [if_neg h2, List.getElem?_append_right (by omega), List.getElem?_drop]
   congr 1
   omega
theorem slotS_at (l : List UInt8) (k j : Nat) : (slotS l k)[j]? = if j < 12 then l[k + j]? else none := by
 unfold slotS
 rw [List.getElem?_take, List.getElem?_drop]
theorem slot_same {D : List UInt8} {k : Nat} {d : List UInt8} (hd : d.length = 12) (h : k + 12 ≤ D.length) : slotS (putB D k d) k = d := by
 apply List.ext_getElem?
 intro j
 rw [slotS_at]
 by_cases hj : j < 12
 ·
  rw [if_pos hj, putB_at _ _ _ _ (by omega), if_neg (by omega), if_pos (by omega)]
  congr 1
  omega
 ·
  rw [if_neg hj, List.getElem?_eq_none (by omega)]
theorem slot_other {D : List UInt8} {k k' : Nat} {d : List UInt8} (hd : d.length = 12) (h : k + 12 ≤ D.length) (hk : k' + 12 ≤ k ∨ k + 12 ≤ k') : slotS (putB D k d) k' = slotS D k' := by
 apply List.ext_getElem?
 intro j
 rw [slotS_at, slotS_at]
 by_cases hj : j < 12
 ·
  rw [if_pos hj, if_pos hj, putB_at _ _ _ _ (by omega)]
  by_cases h1 : k' + j < k
  ·
   rw [if_pos h1]
  ·
   rw [if_neg h1, if_neg (by omega)]
 ·
  rw [if_neg hj, if_neg hj]
/-- the slot's number. -/
def pS (m : Arcs) (i : Nat) (t : Int) : Nat := (placeS (stpS m i) (cntS m i) t).toNat
theorem atS_eq (m : Arcs) (i : Nat) (t : Int) : atS m i t = offS m i + 12 * pS m i t := rfl
theorem atS_apart {m : Arcs} (hF : MayF m) {i i' : Nat} (hi : i < m.length) (hi' : i' < m.length) {t t' : Int} (h : i ≠ i' ∨ pS m i t ≠ pS m i' t') : atS m i' t' + 12 ≤ atS m i t ∨ atS m i t + 12 ≤ atS m i' t' := by
 have p1 := placeS_nat (hF.c1 i hi).1 t
 have p2 := placeS_nat (hF.c1 i' hi').1 t'
 have o1 := offS_succ hi
 have o2 := offS_succ hi'
 rw [← cntS_at hi] at o1
 rw [← cntS_at hi'] at o2
 have e1 := atS_eq m i t
 have e2 := atS_eq m i' t'
 change pS m i t < cntS m i at p1
 change pS m i' t' < cntS m i' at p2
 rcases Nat.lt_trichotomy i i' with hlt | heq | hgt
 ·
  right
  have := offS_mono (m := m) (i := i + 1) (j := i') hlt (Nat.le_of_lt hi')
  omega
 ·
  subst heq
  have : pS m i t ≠ pS m i t' := h.resolve_left (fun e => e rfl)
  omega
 ·
  left
  have := offS_mono (m := m) (i := i' + 1) (j := i) hgt (Nat.le_of_lt hi)
  omega
theorem seen_same {m : Arcs} (hF : MayF m) {D : List UInt8} (hD : D.length = sizeS m) {i : Nat} (hi : i < m.length) {t n : Int} (h0 : 0 ≤ t) (h1 : t ≤ 4294967295) (hn : -9223372036854775808 ≤ n) (hn' : n ≤ 9223372036854775807) : seenS m (layS m D i t n) i t = ofV n := by
 unfold seenS layS
 have h := (atS_in hF hi t).2
 rw [slot_same (encP_len t n) (by omega), decT_enc, decN_enc t n hn hn', if_pos (by unfold at4; omega)]
theorem seen_other {m : Arcs} (hF : MayF m) {D : List UInt8} (hD : D.length = sizeS m) {i i' : Nat} (hi : i < m.length) (hi' : i' < m.length) {t t' n : Int} (h : i ≠ i' ∨ pS m i t ≠ pS m i' t') : seenS m (layS m D i t n) i' t' = seenS m D i' t' := by
 unfold seenS layS
 have h1 := (atS_in hF hi t).2
 rw [slot_other (encP_len t n) (by omega) (by have := atS_apart hF hi hi' h; omega)]
theorem seen_new {ag xf : Nat} {m : Arcs} (hF : MayF m) {i : Nat} (hi : i < m.length) {t : Int} (h : 1 ≤ t) : seenS m (newS ag xf m) i t = ⟨false, 0⟩ := by
 have h1 := (atS_in hF hi t).2
 have h2 := atS_off (m := m) i t
 have hz : slotS (newS ag xf m) (atS m i t) = List.replicate 12 0 := by
  apply List.ext_getElem?
  intro j
  rw [slotS_at]
  by_cases hj : j < 12
  ·
   rw [if_pos hj]
   unfold newS
   rw [List.getElem?_append_right (by rw [hdrS_len]; omega), hdrS_len, List.getElem?_replicate, if_pos (by omega), List.getElem?_replicate, if_pos hj]
  ·
   rw [if_neg hj, List.getElem?_eq_none (by simp; omega)]
 unfold seenS
 rw [hz, if_neg]
 intro e
 have e2 : decT (List.replicate 12 0) = 0 := by kernel_rfl
 rw [e2] at e
 omega
end Go.Proofs.Ytoncapkmaeghfaa
