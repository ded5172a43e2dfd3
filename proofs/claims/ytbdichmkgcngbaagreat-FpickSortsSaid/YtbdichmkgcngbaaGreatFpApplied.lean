/- applied: what is picked is what the page says; of the laws of chapter 23, where no expression is asked. -/
import Derived.Test.YtbdichmkgcngbaaGreatFpLawA
import Derived.Test.YtbdichmkgcngbaaGreatFpApplyR
namespace Go.Proofs.YtbdichmkgcngbaaGreat
set_option linter.unusedVariables false
set_option linter.unusedSimpArgs false
open Go.RowKit

set_option maxRecDepth 100000 in
set_option maxHeartbeats 6400000 in
theorem applied_any (nm text : ByteArray) (k : Vl) (A : Option Addr) (c : Nat) (L : List Sq) (w : World) (hkd : (findF nm).isSome = true → 1 ≤ (rowF nm).kind ∧ (rowF nm).kind ≤ 7) (hcap : L.length ≤ c) (hr : Rl w A L) (hv : Lie w L) :
    Calls Tryz.prog 23 #[.string nm, .agg #[.bool k.ok, .int .i64 k.n], .string text, .slice A L.length c] w fun e w' => e = .returned (.bool true) ∧ Gr w w' := by
  obtain ⟨i0, hi0, hz0, hz1, hz2⟩ := info_parts info_ser
  have gb : Gr w (w.alloc (.cells #[.bool k.ok, .int .i64 k.n] 23)) := Gr.alloc (Gr.refl _) _
  have hVA : VAt (w.alloc (.cells #[.bool k.ok, .int .i64 k.n] 23)) w.heap.size k := by
    refine ⟨?_, ?_, ?_⟩
    all_goals first | (go_simp; done) | (simp; done)
  have HH := Lib.hid (heavy23_any A c L (w.alloc (.cells #[.bool k.ok, .int .i64 k.n] 23)) (hr.gr gb))
  have HKD := Lib.hid hkd
  clear hkd
  go_enter Tryz.func23, Tryz.ntmps23
  go_wp2_with fail
  refine HH.out.mono ?_
  rintro e w1 ⟨⟨b, rfl, hb⟩, hg1⟩
  have gw1 := Gr.trans gb hg1
  have hVA1 := hVA.gr hg1
  clear HH gb hVA hg1
  cases b
  case true =>
    go_wp2
    go_ret
    exact ⟨rfl, gw1⟩
  obtain ⟨hl20, hLt⟩ := hb rfl
  have HLE : Hid (∀ x ∈ L, x.s.vals.length ≤ 1000000) := Lib.hid (fun x hx => by have := (hLt x hx).1; omega)
  clear hLt hb
  by_cases h100 : (100 : Int) < (text.size : Int)
  · go_wp2
    go_ret
    exact ⟨rfl, gw1⟩
  have hl : (L.length : Int) ≤ 20 := by omega
  go_wp2
  go_loopw [9, 10] (fun v i wr => ∃ (j : Nat) (M : List Sq), j ≤ L.length ∧ i = .int .i64 j ∧ Gr w wr ∧ VAt wr w.heap.size k ∧ wr.ownsRow (w.heap.size + 1) 30 5 v j (scells M) ∧ M.length = j ∧ Lie wr M ∧ Apart v.ownBlock M ∧ Hid (M.map Sq.s = (L.take j).map Sq.s)) (fun _ i _ => L.length - (intOf i).toNat)
  case atStart => exact ⟨0, [], Nat.zero_le _, rfl, gw1, hVA1, World.ownsRow_nil _ _ _ _, rfl, fun x hx => absurd hx (by simp), fun x hx => absurd hx (by simp), Lib.hid rfl⟩
  case round =>
    clear gw1 hVA1
    obtain ⟨j, M, hj, rfl, hgr, hVA, hown, hMl, hLie, hAp, HM⟩ := hrel
    by_cases hlt : j < L.length
    · obtain ⟨x, hx⟩ : ∃ x, L[j] = x := ⟨_, rfl⟩
      obtain ⟨ad, rfl, hb, hx0, hx1, hx2, hx3, hx4⟩ := (hr.gr hgr).at hlt
      have hvx := (hv _ (List.getElem_mem hlt)).gr hgr
      have hlx := HLE.out _ (List.getElem_mem hlt)
      rw [hx] at hx0 hx1 hx2 hx3 hx4 hvx hlx
      have QO := fun w hr => rown_any x.s x.A x.c w hlx hr
      have HM2 : Hid (∀ y : Sq, y.s = x.s → (M ++ [y]).map Sq.s = (L.take (j + 1)).map Sq.s) := Lib.hid (fun y hy => by
        rw [List.take_succ_eq_append_getElem hlt, List.map_append, List.map_append, HM.out, hx]
        simp [hy])
      clear hx hlx HM
      go_wp2_with fail
      refine (QO _ hvx).mono ?_; rintro e' w5 ⟨A5, c5, rfl, hr5, hg5, hnew⟩
      have hown5 := own_gr hown hg5
      have gw5 := Gr.trans hgr hg5
      have hVA5 := hVA.gr hg5
      have hLie5 := hLie.gr hg5
      have hrx := Rl.new (W := w5) rfl 30 [⟨x.s, A5, c5⟩]
      have hv0 := hown5.alloc (.cells (scells [⟨x.s, A5, c5⟩]).toArray 30)
      have hvl := hown5.lt
      have z5 := hVA5.2.2
      have HNW := Lib.hid (fun (ad : Addr) (h : A5 = some ad) => new_apart hown (ad := ad) (hnew ad h))
      clear hnew hg5 hx0 hx1 hx2 hx3 hx4
      go_wp2_with
        (at_builtin
         go_loud (
         refine wpList_append_rd rfl (.tmp 29) (.tmp 35) 24 rfl (w.heap.size + 1) 30 i0 _ 5 64 Tryz.underlying24 hi0 hz0 hz1 hz2 rfl (by decide) _ j _ rfl hv0 (some ⟨w5.heap.size, 0, none⟩) 1 _ (scells [⟨x.s, A5, c5⟩]) rfl hrx (scells_one _) (by unfold maxLen; omega) (by omega) (by simp; omega) ?_
         intro v' w7 hown7 hgr7 hat7))
      have hg7 : Gr w w7 := Gr.grown (Gr.alloc gw5 _) hgr7 (fun i hi => by have := (hvl i hi).1; omega)
      have hVA7 : VAt w7 w.heap.size k := by
        have h := hVA5.gr (Gr.alloc (Gr.refl w5) (.cells (scells [⟨x.s, A5, c5⟩]).toArray 30))
        have hn : some w.heap.size ≠ u9.ownBlock := fun e => by have := (hvl _ e.symm).1; omega
        exact ⟨hgr7.cell h.1 hn, hgr7.cell h.2.1 hn, Nat.lt_of_lt_of_le h.2.2 hgr7.size⟩
      have hLie7 : Lie w7 (M ++ [⟨x.s, A5, c5⟩]) := fun y hy => by
        rcases List.mem_append.1 hy with hy | hy
        · exact Rv.grown ((hLie5 y hy).gr (Gr.alloc (Gr.refl w5) _)) hgr7 (fun hn ad h => hAp y hy hn ad h)
        · rw [List.mem_singleton.1 hy]
          exact Rv.grown (hr5.gr (Gr.alloc (Gr.refl w5) _)) hgr7 (fun _ ad h => HNW.out ad h)
      have hAp7 : Apart v'.ownBlock (M ++ [⟨x.s, A5, c5⟩]) := fun y hy hn ad h => by
        rcases hat7 with e7 | e7
        · rw [e7]
          rcases List.mem_append.1 hy with hy | hy
          · exact hAp y hy hn ad h
          · rw [List.mem_singleton.1 hy] at h; exact HNW.out ad h
        · rw [e7]
          intro e8
          injection e8 with e8
          simp at e8
          rcases List.mem_append.1 hy with hy | hy
          · have := (hLie5 y hy).blk hn h; omega
          · rw [List.mem_singleton.1 hy] at h hn
            have := hr5.blk hn h; omega
      have hown8 : w7.ownsRow (w.heap.size + 1) 30 5 v' (j + 1) (scells (M ++ [⟨x.s, A5, c5⟩])) := by rw [scells_append]; exact hown7
      have HM3 := Lib.hid (HM2.out ⟨x.s, A5, c5⟩ rfl)
      clear hv0 hvl hgr7 hat7 hrx hown5 hown7 hown hLie hLie5 hAp hr5 HM2
      go_roundw
      case rel => exact ⟨j + 1, M ++ [⟨x.s, A5, c5⟩], by omega, by go_num, hg7, hVA7, hown8, by simp [hMl], hLie7, hAp7, HM3⟩
      case measure => simp [intOf]; omega
    · have hkk : j = L.length := by omega
      subst hkk
      obtain ⟨AM, cM, hvv⟩ := own_form hown
      subst hvv
      have hcM := own_cap hown
      have hRM : Rl wr AM M := by have h := Rd.own hown; unfold Rl; rw [hMl]; exact h
      have HMS : Hid (M.map Sq.s = L.map Sq.s) := Lib.hid (by rw [HM.out, List.take_length])
      have HMLE : Hid (∀ x ∈ M, x.s.vals.length ≤ 1000000) := Lib.hid (fun x hx => by
        have h1 : x.s ∈ L.map Sq.s := by rw [← HMS.out]; exact List.mem_map_of_mem hx
        obtain ⟨y, hy, e⟩ := List.mem_map.1 h1
        rw [← e]; exact HLE.out y hy)
      clear hown hAp HM
      have hM20 : M.length ≤ 20 := by omega
      have hMc : M.length ≤ cM := by omega
      have QP := fun w' (hr' : Rl w' AM M) (hv' : Lie w' M) => apply_any nm text k AM cM M w' HKD.out hM20 hMc HMLE.out hr' hv'
      rw [hMl, HMS.out] at QP
      have QR := fun w' (hr' : Rl w' A L) (hv' : Lie w' L) => rapply_any nm text k A c L w' (fun h => (HKD.out h).1) hl20 hcap HLE.out hr' hv'
      have QAM := Lib.hid (fun (w' : World) (h1 : Rl w' AM M) (h2 : Rl w' A L) (h3 : Lie w' M) (h4 : Lie w' L) => all23_any AM A cM c M L w' (by omega) HMS.out HMLE.out h1 h2 h3 h4)
      rw [hMl] at QAM
      have HSL : Hid (∀ t ∈ applyS nm k (L.map Sq.s), t ∈ L.map Sq.s) := Lib.hid (fun t ht => by
        unfold applyS at ht
        split at ht
        · exact pickA_mem id (rowF nm) (normV k) _ t ht
        · cases ht)
      have HSN : Hid ((applyS nm k (L.map Sq.s)).length ≤ L.length) := Lib.hid (by
        unfold applyS
        split
        · exact Nat.le_trans (pickA_len _ _ _ _) (by simp)
        · exact Nat.zero_le _)
      generalize applyS nm k (L.map Sq.s) = S at QP QR HSL HSN
      generalize applyE nm (L.map Sq.s) = E at QP QR
      obtain ⟨k0, k1, kz⟩ := id hVA
      go_wp2_with fail
      refine (QP _ hRM hLie).mono ?_; rintro e wX ⟨AX, X, cX, rfl, hX, hcX, hRX, hLX, hgX⟩
      have gX := Gr.trans hgr hgX
      have hVAX := hVA.gr hgX
      have hRMX := hRM.gr hgX
      have hLMX := hLie.gr hgX
      clear k0 k1 kz hVA hRM hLie hgr hgX QP
      obtain ⟨k0, k1, kz⟩ := id hVAX
      go_wp2_with fail
      refine (QR _ (hr.gr gX) (hv.gr gX)).mono ?_; rintro e wY ⟨AY, Y, cY, rfl, hY, hYL, hRY, hgY⟩
      have gY := Gr.trans gX hgY
      have hRXY := hRX.gr hgY
      have hLXY := hLX.gr hgY
      have hRMY := hRMX.gr hgY
      have hLMY := hLMX.gr hgY
      have hLY : Lie wY Y := fun y hy => (hv y (hYL y hy)).gr gY
      have HYLE : Hid (∀ x ∈ X, x.s.vals.length ≤ 1000000) := Lib.hid (fun x hx => by
        have h1 : x.s ∈ S := by rw [← hX]; exact List.mem_map_of_mem hx
        obtain ⟨y, hy, e⟩ := List.mem_map.1 (HSL.out _ h1)
        rw [← e]; exact HLE.out y hy)
      have HXN : Hid (X.length ≤ 20) := Lib.hid (by have h := congrArg List.length hX; simp at h; have := HSN.out; omega)
      have QAX := Lib.hid (fun (w' : World) (h1 : Rl w' AX X) (h2 : Rl w' AY Y) (h3 : Lie w' X) (h4 : Lie w' Y) => all23_any AX AY cX cY X Y w' (by have := HXN.out; omega) (by rw [hX, hY]) HYLE.out h1 h2 h3 h4)
      clear k0 k1 kz hVAX hRX hLX hRMX hLMX gX hgY hX hY hYL QR hcX
      go_wp2
      go_loopw [15] (fun i wr => ∃ j : Nat, j ≤ L.length ∧ i = .int .i64 j ∧ Gr w wr ∧ Gr wY wr) (fun i _ => L.length - (intOf i).toNat)
      case atStart => exact ⟨0, Nat.zero_le _, rfl, gY, Gr.refl _⟩
      case round =>
        obtain ⟨j, hj, rfl, hgr, hgY⟩ := hrel
        by_cases hlt : j < L.length
        · obtain ⟨x, hx⟩ : ∃ x, L[j] = x := ⟨_, rfl⟩
          obtain ⟨ad, rfl, hb, hx0, hx1, hx2, hx3, hx4⟩ := (hr.gr hgr).at hlt
          have hvx := hv _ (List.getElem_mem hlt)
          have hlx := HLE.out _ (List.getElem_mem hlt)
          rw [hx] at hx0 hx1 hx2 hx3 hx4 hvx hlx
          have HX : Hid (∀ W, Gr wr W → W.cell? (ad.add (j * 5)) = some (.string x.s.name) ∧ W.cell? ⟨(ad.add (j * 5)).block, (ad.add (j * 5)).off + 1, none⟩ = some (.int .i64 x.s.start) ∧ W.cell? ⟨(ad.add (j * 5)).block, (ad.add (j * 5)).off + 2, none⟩ = some (.int .i64 x.s.step) ∧ W.cell? ⟨(ad.add (j * 5)).block, (ad.add (j * 5)).off + 3, none⟩ = some (.slice x.A x.s.vals.length x.c) ∧ W.cell? ⟨(ad.add (j * 5)).block, (ad.add (j * 5)).off + 4, none⟩ = some (.int .i64 x.s.cons)) := Lib.hid (fun W hW => ⟨(hW.cell (p := ad.add (j * 5)) (by rw [add_blk]; exact hb)).trans hx0, (hW.cell (p := ⟨(ad.add (j * 5)).block, (ad.add (j * 5)).off + 1, none⟩) (by show (ad.add (j * 5)).block < _; rw [add_blk]; exact hb)).trans hx1, (hW.cell (p := ⟨(ad.add (j * 5)).block, (ad.add (j * 5)).off + 2, none⟩) (by show (ad.add (j * 5)).block < _; rw [add_blk]; exact hb)).trans hx2, (hW.cell (p := ⟨(ad.add (j * 5)).block, (ad.add (j * 5)).off + 3, none⟩) (by show (ad.add (j * 5)).block < _; rw [add_blk]; exact hb)).trans hx3, (hW.cell (p := ⟨(ad.add (j * 5)).block, (ad.add (j * 5)).off + 4, none⟩) (by show (ad.add (j * 5)).block < _; rw [add_blk]; exact hb)).trans hx4⟩)
          have QF := fun w hr => fof_any nm x.s x.A x.c w hlx hr
          have QR := fun w hr => rfof_any nm x.s x.A x.c w hlx hr
          unfold aggSr at QF QR
          generalize ofR (rowF nm).by_ x.s.vals = v at QF QR
          clear hx hx0 hx1 hx2 hx3 hx4
          go_wp2
          refine region_Q (by kernel_rfl) (by kernel_rfl) ?_
          refine q_val (v := ?qv45) (by rfl) (fun W hW => ?qh45) ?qr45
          case qh45 =>
            go_simp
            rfl
          simp only [Act.put, List.setIfInBounds_toArray, List.set_cons_zero, List.set_cons_succ]
          refine q_val (v := ?qv46) (by rfl) (fun W hW => ?qh46) ?qr46
          case qh46 =>
            go_simp
            rfl
          simp only [Act.put, List.setIfInBounds_toArray, List.set_cons_zero, List.set_cons_succ]
          refine q_val (v := ?qv47) (by rfl) (fun W hW => ?qh47) ?qr47
          case qh47 =>
            go_simp
            rfl
          simp only [Act.put, List.setIfInBounds_toArray, List.set_cons_zero, List.set_cons_succ]
          refine q_val (v := ?qv48) (by rfl) (fun W hW => ?qh48) ?qr48
          case qh48 =>
            go_simp
            rfl
          simp only [Act.put, List.setIfInBounds_toArray, List.set_cons_zero, List.set_cons_succ]
          refine q_val (v := ?qv49) (by rfl) (fun W hW => ?qh49) ?qr49
          case qh49 =>
            obtain ⟨x0, x1, x2, x3, x4⟩ := HX.out W hW
            go_simp
            rfl
          simp only [Act.put, List.setIfInBounds_toArray, List.set_cons_zero, List.set_cons_succ]
          refine q_call (v := .agg #[.bool v.ok, .int .i64 v.n]) (f := ?qf50) (args := ?qa50) (by rfl) (fun W hW => ?qh50) (fun W hW => ?qc50) ?qr50
          case qh50 =>
            go_simp
            constructor
            · rfl
            · rfl
          case qc50 => exact (QF W ((hvx.gr hgr).gr hW)).mono (fun e w' h => ⟨h.1, Gr.trans hW h.2⟩)
          simp only [Act.put, List.setIfInBounds_toArray, List.set_cons_zero, List.set_cons_succ]
          refine q_val (v := ?qv51) (by rfl) (fun W hW => ?qh51) ?qr51
          case qh51 =>
            go_simp
            rfl
          simp only [Act.put, List.setIfInBounds_toArray, List.set_cons_zero, List.set_cons_succ]
          refine q_val (v := ?qv52) (by rfl) (fun W hW => ?qh52) ?qr52
          case qh52 =>
            go_simp
            rfl
          simp only [Act.put, List.setIfInBounds_toArray, List.set_cons_zero, List.set_cons_succ]
          refine q_val (v := ?qv53) (by rfl) (fun W hW => ?qh53) ?qr53
          case qh53 =>
            go_simp
            rfl
          simp only [Act.put, List.setIfInBounds_toArray, List.set_cons_zero, List.set_cons_succ]
          refine q_val (v := ?qv54) (by rfl) (fun W hW => ?qh54) ?qr54
          case qh54 =>
            go_simp
            rfl
          simp only [Act.put, List.setIfInBounds_toArray, List.set_cons_zero, List.set_cons_succ]
          refine q_val (v := ?qv55) (by rfl) (fun W hW => ?qh55) ?qr55
          case qh55 =>
            obtain ⟨x0, x1, x2, x3, x4⟩ := HX.out W hW
            go_simp
            rfl
          simp only [Act.put, List.setIfInBounds_toArray, List.set_cons_zero, List.set_cons_succ]
          refine q_call (v := .agg #[.bool v.ok, .int .i64 v.n]) (f := ?qf56) (args := ?qa56) (by rfl) (fun W hW => ?qh56) (fun W hW => ?qc56) ?qr56
          case qh56 =>
            go_simp
            constructor
            · rfl
            · rfl
          case qc56 => exact (QR W ((hvx.gr hgr).gr hW)).mono (fun e w' h => ⟨h.1, Gr.trans hW h.2⟩)
          simp only [Act.put, List.setIfInBounds_toArray, List.set_cons_zero, List.set_cons_succ]
          refine q_val (v := ?qv57) (by rfl) (fun W hW => ?qh57) ?qr57
          case qh57 =>
            go_simp
            rfl
          simp only [Act.put, List.setIfInBounds_toArray, List.set_cons_zero, List.set_cons_succ]
          refine wpQuiet_nil ?_
          intro w6 hg6
          have gw6 := Gr.trans hgr hg6
          have gY6 := Gr.trans hgY hg6
          clear HX QF QR hg6
          go_wp2
          go_roundw
          case rel => exact ⟨j + 1, by omega, by go_num, gw6, gY6⟩
          case measure => simp [intOf]; omega
        · have hkk : j = L.length := by omega
          subst hkk
          go_wp2_with fail
          refine (QAX.out _ (hRXY.gr hgY) (hRY.gr hgY) (hLXY.gr hgY) (hLY.gr hgY)).mono ?_; rintro e wa ⟨rfl, hga⟩
          have gYa := Gr.trans hgY hga
          have gwa := Gr.trans hgr hga
          go_wp2_with fail
          refine (QAM.out _ (hRMY.gr gYa) (hr.gr gwa) (hLMY.gr gYa) (hv.gr gwa)).mono ?_; rintro e wb ⟨rfl, hgb⟩
          go_wp2_with fail
          refine (known23_any _).mono ?_; rintro e wd ⟨rfl, hgd⟩
          go_wp2
          go_ret
          exact ⟨rfl, Gr.trans gwa (Gr.trans hgb hgd)⟩
end Go.Proofs.YtbdichmkgcngbaaGreat
