/- The contract of fpick's Apply, where no expression is asked. -/
import Derived.Test.YtbdichmkgcngbaaGreatRunFpSorted
import Derived.Test.YtbdichmkgcngbaaGreatRunRegZ
namespace Go.Proofs.YtbdichmkgcngbaaGreat
set_option linter.unusedVariables false
set_option linter.unusedSimpArgs false
open Go.RowKit

set_option maxRecDepth 100000 in
set_option maxHeartbeats 1600000 in
theorem ajf_any (x : Sq) (w : World) (hr : Rv w x.A x.s.vals) : Calls Tryz.prog 27 #[.agg #[.string x.s.name, .int .i64 x.s.start, .int .i64 x.s.step, .slice x.A x.s.vals.length x.c, .int .i64 x.s.cons]] w fun e w' => e = .returned (.bool (!isS x.s)) ∧ Gr w w' := by
 have Q := fun w hr => sis_any x.s x.A x.c w hr
 cases h : isS x.s
 all_goals
  simp only [h] at Q
  go_enter Tryz.func27, Tryz.ntmps27
  go_wp2_with fail
  refine (Q _ ?hr).mono ?_
  case hr => exact hr.gr (by repeat (first | exact Gr.refl _ | refine Gr.alloc ?_ _ | refine Gr.drew ?_ | refine Gr.setCell ?_ (by first | (simp; done) | (simp; omega) | omega) _ | refine Gr.trans ?_ (by assumption)))
  rintro e w1 ⟨rfl, hg⟩
  go_wp2
  go_ret
  exact ⟨rfl, (by repeat (first | exact Gr.refl _ | refine Gr.alloc ?_ _ | refine Gr.drew ?_ | refine Gr.setCell ?_ (by first | (simp; done) | (simp; omega) | omega) _ | refine Gr.trans ?_ (by assumption)))⟩

set_option maxRecDepth 100000 in
set_option maxHeartbeats 1600000 in
theorem aidxs_any (A : Option Addr) (c : Nat) (L : List Sq) (w : World) (hl : (L.length : Int) ≤ 131072) (hr : Rl w A L) (hv : Lie w L) :
  Calls Tryz.prog 46 #[.slice A L.length c, .func (.func 27) #[] #[]] w fun e w' => (∃ k : Int, e = .returned (.int .i64 k) ∧ (0 ≤ k ↔ okL L = false)) ∧ Gr w w' := by
 go_enter Tryz.func46, Tryz.ntmps46
 go_wp2
 go_loopw [5, 8] (fun _ i wr => ∃ k : Nat, k ≤ L.length ∧ i = .int .i64 k ∧ Gr w wr ∧ okL (L.take k) = true) (fun _ i _ => L.length - (intOf i).toNat)
 case atStart => exact ⟨0, Nat.zero_le _, rfl, Gr.refl _, rfl⟩
 case round =>
  obtain ⟨k, hk, rfl, hgr, ha⟩ := hrel
  by_cases hlt : k < L.length
  ·
   obtain ⟨ad, rfl, hb, hx0, hx1, hx2, hx3, hx4⟩ := (hr.gr hgr).at hlt
   have Ht := okL_take hlt
   rw [ha] at Ht
   have Ht := Lib.hid Ht
   have Hn := Lib.hid (okL_no hlt)
   have hvx := hv _ (List.getElem_mem hlt)
   have Q := fun (w : World) (hr : Rv w (L[k]'hlt).A (L[k]'hlt).s.vals) => ajf_any (L[k]'hlt) w hr
   clear ha
   cases hx : isS L[k].s
   ·
    simp only [hx, Bool.not_false] at Q
    go_wp2_with fail
    refine (Q _ (hvx.gr hgr)).mono ?_; rintro e w1 ⟨rfl, hg⟩
    go_wp2
    go_ret
    exact ⟨⟨_, rfl, by simp [Hn.out hx]⟩, (by repeat (first | exact Gr.refl _ | refine Gr.alloc ?_ _ | refine Gr.drew ?_ | refine Gr.setCell ?_ (by first | (simp; done) | (simp; omega) | omega) _ | refine Gr.trans ?_ (by assumption)))⟩
   ·
    simp only [hx, Bool.not_true] at Q
    go_wp2_with fail
    refine (Q _ (hvx.gr hgr)).mono ?_; rintro e w1 ⟨rfl, hg⟩
    go_wp2
    go_roundw
    case rel => exact ⟨k + 1, by omega, by go_num, (by repeat (first | exact Gr.refl _ | refine Gr.alloc ?_ _ | refine Gr.drew ?_ | refine Gr.setCell ?_ (by first | (simp; done) | (simp; omega) | omega) _ | refine Gr.trans ?_ (by assumption))), by rw [Ht.out, hx]; rfl⟩
    case measure => simp [intOf]; omega
  ·
   have hkk : k = L.length := by omega
   subst hkk
   rw [List.take_length] at ha
   have Ha := Lib.hid ha; clear ha
   go_wp2
   go_ret
   exact ⟨⟨_, rfl, by rw [Ha.out]; simp⟩, (by repeat (first | exact Gr.refl _ | refine Gr.alloc ?_ _ | refine Gr.drew ?_ | refine Gr.setCell ?_ (by first | (simp; done) | (simp; omega) | omega) _ | refine Gr.trans ?_ (by assumption)))⟩

set_option maxRecDepth 100000 in
set_option maxHeartbeats 1600000 in
theorem acons_any (A : Option Addr) (c : Nat) (L : List Sq) (w : World) (hl : (L.length : Int) ≤ 131072) (hr : Rl w A L) (hv : Lie w L) :
  Calls Tryz.prog 26 #[.slice A L.length c, .func (.func 27) #[] #[]] w fun e w' => e = .returned (.bool (!okL L)) ∧ Gr w w' := by
 go_enter Tryz.func26, Tryz.ntmps26
 go_wp2_with fail
 refine (aidxs_any A c L _ hl hr hv).mono ?_; rintro e w1 ⟨⟨k, rfl, hk⟩, hg⟩
 have Hk := Lib.hid hk; clear hk
 by_cases h0 : 0 ≤ k
 ·
  go_wp2
  go_ret
  refine ⟨?_, hg⟩
  rw [Hk.out.1 h0]
  simp [h0]
 ·
  go_wp2
  go_ret
  refine ⟨?_, hg⟩
  have : okL L = true := by
   cases hq : okL L
   ·
    exact absurd (Hk.out.2 hq) (by omega)
   ·
    rfl
  rw [this]
  simp [h0]


/-- series and an error's number are handed back. -/
def RetA (E : Int) (S : List Sr) (w : World) (e : Ending) (w' : World) : Prop :=
 ∃ (A : Option Addr) (M : List Sq) (c : Nat), e = .returned (.tuple #[.slice A M.length c, .int .i64 E]) ∧ M.map Sq.s = S ∧ M.length ≤ c ∧ Rl w' A M ∧ Lie w' M ∧ Gr w w'
theorem RetA.no {E : Int} {w w' : World} (g : Gr w w') : RetA E [] w (.returned (.tuple #[.slice none 0 0, .int .i64 E])) w' :=
 ⟨none, [], 0, rfl, rfl, Nat.le_refl _, Rd.nil _ _ _, fun x hx => absurd hx (by simp), g⟩

set_option maxRecDepth 100000 in
set_option maxHeartbeats 3200000 in
theorem apply_no (nm text : ByteArray) (k : Vl) (A : Option Addr) (c : Nat) (L : List Sq) (w : World) (hf : (findF nm).isSome = false) :
  Calls Tryz.prog 18 #[.string nm, .agg #[.bool k.ok, .int .i64 k.n], .string text, .slice A L.length c] w (RetA 9 [] w) := by
 have QF := fun w => find_any nm w
 unfold RetFind aggFr at QF
 simp only [hf] at QF
 generalize rowF nm = r at QF
 go_enter Tryz.func18, Tryz.ntmps18
 go_wp2_with fail
 refine (QF _).mono ?_; rintro e w1 ⟨rfl, hg1⟩
 have gw1 := Gr.trans (Gr.alloc (Gr.alloc (Gr.refl w) _) _) hg1
 go_wp2
 go_ret2
 exact RetA.no (Gr.alloc gw1 _)

set_option maxRecDepth 100000 in
set_option maxHeartbeats 3200000 in
theorem apply_bad (nm text : ByteArray) (k : Vl) (A : Option Addr) (c : Nat) (L : List Sq) (w : World) (hf : (findF nm).isSome = true) (hok : okL L = false) (h20 : L.length ≤ 20) (hr : Rl w A L) (hv : Lie w L) :
  Calls Tryz.prog 18 #[.string nm, .agg #[.bool k.ok, .int .i64 k.n], .string text, .slice A L.length c] w (RetA 1 [] w) := by
 have QF := fun w => find_any nm w
 unfold RetFind aggFr at QF
 simp only [hf] at QF
 have QC := fun w hr hv => acons_any A c L w (by omega) hr hv
 simp only [hok, Bool.not_false] at QC
 generalize rowF nm = r at QF
 go_enter Tryz.func18, Tryz.ntmps18
 go_wp2_with fail
 refine (QF _).mono ?_; rintro e w1 ⟨rfl, hg1⟩
 have gw1 := Gr.trans (Gr.alloc (Gr.alloc (Gr.refl w) _) _) hg1
 have gw2 := Gr.alloc gw1 (.cells #[.string r.nm, .int .i64 r.kind, .int .i64 r.by_, .bool r.least] 45)
 clear hg1
 go_wp2_with fail
 refine (QC _ (hr.gr gw2) (hv.gr gw2)).mono ?_; rintro e w3 ⟨rfl, hg3⟩
 go_wp2
 go_ret2
 exact RetA.no (Gr.trans gw2 hg3)

set_option maxRecDepth 100000 in
set_option maxHeartbeats 3200000 in
theorem apply_yes (nm text : ByteArray) (k : Vl) (A : Option Addr) (c : Nat) (L : List Sq) (w : World) (hf : (findF nm).isSome = true) (hok : okL L = true) (hk : isB k = true) (h1 : 1 ≤ (rowF nm).kind) (h7 : (rowF nm).kind ≤ 7) (h20 : L.length ≤ 20) (hcap : L.length ≤ c) (hle : ∀ x ∈ L, x.s.vals.length ≤ 1000000) (hr : Rl w A L) (hv : Lie w L) :
  Calls Tryz.prog 18 #[.string nm, .agg #[.bool k.ok, .int .i64 k.n], .string text, .slice A L.length c] w (RetA 0 ((pickA Sq.s (rowF nm) (normV k) L).map Sq.s) w) := by
 obtain ⟨i0, hi0, hz0, hz1, hz2⟩ := info_parts info_ser
 have hnk : normV k = k := by unfold normV; rw [hk]; rfl
 have QF := fun w => find_any nm w
 unfold RetFind aggFr at QF
 simp only [hf] at QF
 have QC := fun w hr hv => acons_any A c L w (by omega) hr hv
 simp only [hok, Bool.not_true] at QC
 have QI := fun w => is_any k.ok k.n w
 simp only [show isB ⟨k.ok, k.n⟩ = true from hk] at QI
 have QD := fun w hr hv => does_any (rowF nm) k A c L w (by exact hk) h20 hcap hle hr hv h1 h7
 unfold aggFr at QD
 rw [hnk]
 have hP1 := pickA_len Sq.s (rowF nm) k L
 have hP2 := pickA_mem Sq.s (rowF nm) k L
 generalize rowF nm = r at QF QD h1 h7 hP1 hP2 ⊢
 generalize pickA Sq.s r k L = P at QD hP1 hP2 ⊢
 have hP20 : (P.length : Int) ≤ 20 := by omega
 have hkz : (r.kind == 0) = false := beq_eq_false_iff_ne.2 (by omega)
 have hkz' : r.kind ≠ 0 := by omega
 have HP : Hid (∀ x ∈ P, x.s.vals.length ≤ 1000000 ∧ Rv w x.A x.s.vals) := Lib.hid (fun x hx => ⟨hle x (hP2 x hx), hv x (hP2 x hx)⟩)
 clear hle hP2 hP1 hk hnk hok hf h1 h7 hcap
 have gb : Gr w ((w.alloc (.cells #[.string nm] 9)).alloc (.cells #[.bool k.ok, .int .i64 k.n] 23)) := Gr.alloc (Gr.alloc (Gr.refl _) _) _
 have hVA : VAt ((w.alloc (.cells #[.string nm] 9)).alloc (.cells #[.bool k.ok, .int .i64 k.n] 23)) (w.heap.size + 1) k := by
  refine ⟨?_, ?_, ?_⟩
  all_goals first | (go_simp; done) | (simp; done)
 have hF0 : (((w.alloc (.cells #[.string nm] 9)).alloc (.cells #[.bool k.ok, .int .i64 k.n] 23))).frozen? ⟨w.heap.size + 1, 0, none⟩ = false := by go_simp
 have hF1 : (((w.alloc (.cells #[.string nm] 9)).alloc (.cells #[.bool k.ok, .int .i64 k.n] 23))).frozen? ⟨w.heap.size + 1, 1, none⟩ = false := by go_simp
 go_enter Tryz.func18, Tryz.ntmps18
 go_wp2_with fail
 refine (QF _).mono ?_; rintro e w1 ⟨rfl, hg1⟩
 have hVA1 := hVA.gr hg1
 have gw1 := Gr.trans gb hg1
 have gR : Gr w1 (w1.alloc (.cells #[.string r.nm, .int .i64 r.kind, .int .i64 r.by_, .bool r.least] 45)) := Gr.alloc (Gr.refl _) _
 have hFA : FAt (w1.alloc (.cells #[.string r.nm, .int .i64 r.kind, .int .i64 r.by_, .bool r.least] 45)) w1.heap.size r := by
  refine ⟨?_, ?_, ?_, ?_, ?_⟩
  all_goals first | (go_simp; done) | (simp; done)
 have hVA2 := hVA1.gr gR
 have f20 := (gR.frozen (p := ⟨w.heap.size + 1, 0, none⟩) hVA1.2.2).trans ((hg1.frozen (p := ⟨w.heap.size + 1, 0, none⟩) hVA.2.2).trans hF0)
 have f21 := (gR.frozen (p := ⟨w.heap.size + 1, 1, none⟩) hVA1.2.2).trans ((hg1.frozen (p := ⟨w.heap.size + 1, 1, none⟩) hVA.2.2).trans hF1)
 have gw2 := Gr.trans gw1 gR
 have zB : w.heap.size + 1 < w1.heap.size := hVA1.2.2
 clear hVA hVA1 hg1 hF0 hF1 QF gb gR gw1
 go_wp2_with fail
 refine (QC _ (hr.gr gw2) (hv.gr gw2)).mono ?_; rintro e w3 ⟨rfl, hg3⟩
 have hVA3 := hVA2.gr hg3
 have hFA3 := hFA.gr hg3
 have f30 := (hg3.frozen (p := ⟨w.heap.size + 1, 0, none⟩) hVA2.2.2).trans f20
 have f31 := (hg3.frozen (p := ⟨w.heap.size + 1, 1, none⟩) hVA2.2.2).trans f21
 have gw3 := Gr.trans gw2 hg3
 clear hVA2 hFA f20 f21 gw2 hg3 QC
 obtain ⟨k30, k31, zk⟩ := id hVA3
 go_wp2_with fail
 refine (QI _).mono ?_; rintro e w4 ⟨rfl, hg4⟩
 have hVA4 := hVA3.gr hg4
 have hFA4 := hFA3.gr hg4
 have f40 := (hg4.frozen (p := ⟨w.heap.size + 1, 0, none⟩) zk).trans f30
 have f41 := (hg4.frozen (p := ⟨w.heap.size + 1, 1, none⟩) zk).trans f31
 have gw4 := Gr.trans gw3 hg4
 clear k30 k31 zk hVA3 hFA3 f30 f31 gw3 hg4 QI
 obtain ⟨k40, k41, zk⟩ := id hVA4
 obtain ⟨r0, r1, r2, r3, zr⟩ := id hFA4
 have gw := gw4
 go_wp2_with fail
 refine (QD _ (hr.gr gw) (hv.gr gw)).mono ?_; rintro e wD ⟨AD, cD, rfl, hcD, hrD, hgD⟩
 clear k40 k41 zk r0 r1 r2 r3 zr hVA4 hFA4 f40 f41 gw4 QD
 have gD := Gr.trans gw hgD
 clear hgD gw
 go_wp2
 go_loopw [15, 51] (fun v i wr => ∃ (j : Nat) (M : List Sq), j ≤ P.length ∧ i = .int .i64 j ∧ Gr w wr ∧ Gr wD wr ∧ wr.ownsRow wD.heap.size 30 5 v j (scells M) ∧ M.length = j ∧ Lie wr M ∧ Apart v.ownBlock M ∧ Hid (M.map Sq.s = (P.take j).map Sq.s)) (fun _ i _ => P.length - (intOf i).toNat)
 case atStart => exact ⟨0, [], Nat.zero_le _, rfl, gD, Gr.refl _, World.ownsRow_nil _ _ _ _, rfl, fun x hx => absurd hx (by simp), fun x hx => absurd hx (by simp), Lib.hid rfl⟩
 case round =>
  obtain ⟨j, M, hj, rfl, hgr, hgD, hown, hMl, hLie, hAp, HM⟩ := hrel
  by_cases hlt : j < P.length
  ·
   obtain ⟨x, hx⟩ : ∃ x, P[j] = x := ⟨_, rfl⟩
   obtain ⟨ad, rfl, hb, hx0, hx1, hx2, hx3, hx4⟩ := (hrD.gr hgD).at hlt
   have hmem := HP.out _ (List.getElem_mem hlt)
   rw [hx] at hx0 hx1 hx2 hx3 hx4 hmem
   have hlx := hmem.1
   have hvx := hmem.2
   have QO := fun w hr => own_any x.s x.A x.c w hlx hr
   have HM2 : Hid (∀ y : Sq, y.s = x.s → (M ++ [y]).map Sq.s = (P.take (j + 1)).map Sq.s) := Lib.hid (fun y hy => by
    rw [List.take_succ_eq_append_getElem hlt, List.map_append, List.map_append, HM.out, hx]
    simp [hy])
   clear hx hlx hmem HM
   go_wp2_with fail
   refine (QO _ ((hvx.gr hgr).gr (Gr.alloc (Gr.refl _) _))).mono ?_; rintro e' w5 ⟨A5, c5, rfl, hr5, hg5, hnew⟩
   have hbox := Gr.trans (Gr.alloc (Gr.refl wr) _) hg5
   have hown5 := own_gr hown hbox
   have gw5 := Gr.trans hgr hbox
   have gD5 := Gr.trans hgD hbox
   have hLie5 := hLie.gr hbox
   have hrx := Rl.new (W := w5) rfl 30 [⟨x.s, A5, c5⟩]
   have hv0 := hown5.alloc (.cells (scells [⟨x.s, A5, c5⟩]).toArray 30)
   have hvl := hown5.lt
   have z5 := gw5.size
   have z6 := gD5.size
   have z7 := gD.size
   have HNW := Lib.hid (fun (ad : Addr) (h : A5 = some ad) => new_apart hown (ad := ad) (by have h1 := hnew ad h; simp at h1; omega))
   clear hnew hg5 hx0 hx1 hx2 hx3 hx4
   go_wp2_with
    (
     at_builtin
     refine wpList_append_rd rfl (.tmp 55) (.tmp 58) 24 rfl wD.heap.size 30 i0 _ 5 64 Tryz.underlying24 hi0 hz0 hz1 hz2 rfl (by decide) _ j _ rfl hv0 (some ⟨w5.heap.size, 0, none⟩) 1 _ (scells [⟨x.s, A5, c5⟩]) rfl hrx (scells_one _) (by unfold maxLen; omega) (by omega) (by simp; omega) ?_
     intro v' w7 hown7 hgr7 hat7)
   have hg7 : Gr w w7 := Gr.grown (Gr.alloc gw5 _) hgr7 (fun j hj => by have := (hvl j hj).1; omega)
   have hgD7 : Gr wD w7 := Gr.grown (Gr.alloc gD5 _) hgr7 (fun j hj => (hvl j hj).1)
   have hLie7 : Lie w7 (M ++ [⟨x.s, A5, c5⟩]) := fun y hy => by
    rcases List.mem_append.1 hy with hy | hy
    ·
     exact Rv.grown ((hLie5 y hy).gr (Gr.alloc (Gr.refl w5) _)) hgr7 (fun hn ad h => hAp y hy hn ad h)
    ·
     rw [List.mem_singleton.1 hy]
     exact Rv.grown (hr5.gr (Gr.alloc (Gr.refl w5) _)) hgr7 (fun _ ad h => HNW.out ad h)
   have hAp7 : Apart v'.ownBlock (M ++ [⟨x.s, A5, c5⟩]) := fun y hy hn ad h => by
    rcases hat7 with e7 | e7
    ·
     rw [e7]
     rcases List.mem_append.1 hy with hy | hy
     ·
      exact hAp y hy hn ad h
     ·
      rw [List.mem_singleton.1 hy] at h; exact HNW.out ad h
    ·
     rw [e7]
     intro e8
     injection e8 with e8
     simp at e8
     rcases List.mem_append.1 hy with hy | hy
     ·
      have := (hLie5 y hy).blk hn h; omega
     ·
      rw [List.mem_singleton.1 hy] at h hn
      have := hr5.blk hn h; omega
   have hown8 : w7.ownsRow wD.heap.size 30 5 v' (j + 1) (scells (M ++ [⟨x.s, A5, c5⟩])) := by rw [scells_append]; exact hown7
   have HM3 := Lib.hid (HM2.out ⟨x.s, A5, c5⟩ rfl)
   clear hv0 hvl hgr7 hat7 hrx hown5 hown7 hown hLie hLie5 hAp hr5 hbox HM2
   go_roundw
   case rel => exact ⟨j + 1, M ++ [⟨x.s, A5, c5⟩], by omega, by go_num, hg7, hgD7, hown8, by simp [hMl], hLie7, hAp7, HM3⟩
   case measure => simp [intOf]; omega
  ·
   have hkk : j = P.length := by omega
   subst hkk
   obtain ⟨A', c', hvv⟩ := own_form hown
   subst hvv
   have hcap1 := own_cap hown
   have hRd := Rd.own hown
   have HJ : Hid (M.map Sq.s = P.map Sq.s) := Lib.hid (by rw [HM.out, List.take_length])
   have HE2 : Hid (Ending.returned (.tuple #[.slice A' P.length c', .int .i64 0]) = Ending.returned (.tuple #[.slice A' M.length c', .int .i64 0])) := Lib.hid (by rw [hMl])
   have hRl : Rl wr A' M := by unfold Rl; rw [hMl]; exact hRd
   have HMC : Hid (M.length ≤ c') := Lib.hid (by rw [hMl]; exact hcap1)
   clear hMl HM hAp hown hRd
   go_wp2
   go_ret2
   exact ⟨A', M, c', HE2.out, HJ.out, HMC.out, hRl, hLie, hgr⟩

set_option maxRecDepth 100000 in
set_option maxHeartbeats 3200000 in
theorem apply_none (nm text : ByteArray) (k : Vl) (A : Option Addr) (c : Nat) (L : List Sq) (w : World) (hf : (findF nm).isSome = true) (hok : okL L = true) (hk : isB k = false) (h1 : 1 ≤ (rowF nm).kind) (h7 : (rowF nm).kind ≤ 7) (h20 : L.length ≤ 20) (hcap : L.length ≤ c) (hle : ∀ x ∈ L, x.s.vals.length ≤ 1000000) (hr : Rl w A L) (hv : Lie w L) :
  Calls Tryz.prog 18 #[.string nm, .agg #[.bool k.ok, .int .i64 k.n], .string text, .slice A L.length c] w (RetA 0 ((pickA Sq.s (rowF nm) (normV k) L).map Sq.s) w) := by
 obtain ⟨i0, hi0, hz0, hz1, hz2⟩ := info_parts info_ser
 have hnk : normV k = ⟨false, 0⟩ := by unfold normV; rw [hk]; rfl
 have QF := fun w => find_any nm w
 unfold RetFind aggFr at QF
 simp only [hf] at QF
 have QC := fun w hr hv => acons_any A c L w (by omega) hr hv
 simp only [hok, Bool.not_true] at QC
 have QI := fun w => is_any k.ok k.n w
 simp only [show isB ⟨k.ok, k.n⟩ = false from hk] at QI
 have QD := fun w hr hv => does_any (rowF nm) ⟨false, 0⟩ A c L w (by rfl) h20 hcap hle hr hv h1 h7
 unfold aggFr at QD
 rw [hnk]
 have hP1 := pickA_len Sq.s (rowF nm) ⟨false, 0⟩ L
 have hP2 := pickA_mem Sq.s (rowF nm) ⟨false, 0⟩ L
 generalize rowF nm = r at QF QD h1 h7 hP1 hP2 ⊢
 generalize pickA Sq.s r ⟨false, 0⟩ L = P at QD hP1 hP2 ⊢
 have hP20 : (P.length : Int) ≤ 20 := by omega
 have hkz : (r.kind == 0) = false := beq_eq_false_iff_ne.2 (by omega)
 have hkz' : r.kind ≠ 0 := by omega
 have HP : Hid (∀ x ∈ P, x.s.vals.length ≤ 1000000 ∧ Rv w x.A x.s.vals) := Lib.hid (fun x hx => ⟨hle x (hP2 x hx), hv x (hP2 x hx)⟩)
 clear hle hP2 hP1 hk hnk hok hf h1 h7 hcap
 have gb : Gr w ((w.alloc (.cells #[.string nm] 9)).alloc (.cells #[.bool k.ok, .int .i64 k.n] 23)) := Gr.alloc (Gr.alloc (Gr.refl _) _) _
 have hVA : VAt ((w.alloc (.cells #[.string nm] 9)).alloc (.cells #[.bool k.ok, .int .i64 k.n] 23)) (w.heap.size + 1) k := by
  refine ⟨?_, ?_, ?_⟩
  all_goals first | (go_simp; done) | (simp; done)
 have hF0 : (((w.alloc (.cells #[.string nm] 9)).alloc (.cells #[.bool k.ok, .int .i64 k.n] 23))).frozen? ⟨w.heap.size + 1, 0, none⟩ = false := by go_simp
 have hF1 : (((w.alloc (.cells #[.string nm] 9)).alloc (.cells #[.bool k.ok, .int .i64 k.n] 23))).frozen? ⟨w.heap.size + 1, 1, none⟩ = false := by go_simp
 go_enter Tryz.func18, Tryz.ntmps18
 go_wp2_with fail
 refine (QF _).mono ?_; rintro e w1 ⟨rfl, hg1⟩
 have hVA1 := hVA.gr hg1
 have gw1 := Gr.trans gb hg1
 have gR : Gr w1 (w1.alloc (.cells #[.string r.nm, .int .i64 r.kind, .int .i64 r.by_, .bool r.least] 45)) := Gr.alloc (Gr.refl _) _
 have hFA : FAt (w1.alloc (.cells #[.string r.nm, .int .i64 r.kind, .int .i64 r.by_, .bool r.least] 45)) w1.heap.size r := by
  refine ⟨?_, ?_, ?_, ?_, ?_⟩
  all_goals first | (go_simp; done) | (simp; done)
 have hVA2 := hVA1.gr gR
 have f20 := (gR.frozen (p := ⟨w.heap.size + 1, 0, none⟩) hVA1.2.2).trans ((hg1.frozen (p := ⟨w.heap.size + 1, 0, none⟩) hVA.2.2).trans hF0)
 have f21 := (gR.frozen (p := ⟨w.heap.size + 1, 1, none⟩) hVA1.2.2).trans ((hg1.frozen (p := ⟨w.heap.size + 1, 1, none⟩) hVA.2.2).trans hF1)
 have gw2 := Gr.trans gw1 gR
 have zB : w.heap.size + 1 < w1.heap.size := hVA1.2.2
 clear hVA hVA1 hg1 hF0 hF1 QF gb gR gw1
 go_wp2_with fail
 refine (QC _ (hr.gr gw2) (hv.gr gw2)).mono ?_; rintro e w3 ⟨rfl, hg3⟩
 have hVA3 := hVA2.gr hg3
 have hFA3 := hFA.gr hg3
 have f30 := (hg3.frozen (p := ⟨w.heap.size + 1, 0, none⟩) hVA2.2.2).trans f20
 have f31 := (hg3.frozen (p := ⟨w.heap.size + 1, 1, none⟩) hVA2.2.2).trans f21
 have gw3 := Gr.trans gw2 hg3
 clear hVA2 hFA f20 f21 gw2 hg3 QC
 obtain ⟨k30, k31, zk⟩ := id hVA3
 go_wp2_with fail
 refine (QI _).mono ?_; rintro e w4 ⟨rfl, hg4⟩
 have hVA4 := hVA3.gr hg4
 have hFA4 := hFA3.gr hg4
 have f40 := (hg4.frozen (p := ⟨w.heap.size + 1, 0, none⟩) zk).trans f30
 have f41 := (hg4.frozen (p := ⟨w.heap.size + 1, 1, none⟩) zk).trans f31
 have gw4 := Gr.trans gw3 hg4
 clear k30 k31 zk hVA3 hFA3 f30 f31 gw3 hg4 QI
 obtain ⟨k40, k41, zk⟩ := id hVA4
 obtain ⟨r0, r1, r2, r3, zr⟩ := id hFA4
 have gw : Gr w ((w4.setCell ⟨w.heap.size + 1, 0, none⟩ (.bool false)).setCell ⟨w.heap.size + 1, 1, none⟩ (.int .i64 0)) := Gr.setCell (Gr.setCell gw4 (Nat.le_succ _) _) (Nat.le_succ _) _
 have HG := Lib.hid (And.intro (hr.gr gw) (hv.gr gw))
 go_wp2_with fail
 refine (QD _ HG.out.1 HG.out.2).mono ?_; rintro e wD ⟨AD, cD, rfl, hcD, hrD, hgD⟩
 clear k40 k41 zk r0 r1 r2 r3 zr hVA4 hFA4 f40 f41 gw4 QD HG
 have gD := Gr.trans gw hgD
 clear hgD gw
 go_wp2
 go_loopw [15, 51] (fun v i wr => ∃ (j : Nat) (M : List Sq), j ≤ P.length ∧ i = .int .i64 j ∧ Gr w wr ∧ Gr wD wr ∧ wr.ownsRow wD.heap.size 30 5 v j (scells M) ∧ M.length = j ∧ Lie wr M ∧ Apart v.ownBlock M ∧ Hid (M.map Sq.s = (P.take j).map Sq.s)) (fun _ i _ => P.length - (intOf i).toNat)
 case atStart => exact ⟨0, [], Nat.zero_le _, rfl, gD, Gr.refl _, World.ownsRow_nil _ _ _ _, rfl, fun x hx => absurd hx (by simp), fun x hx => absurd hx (by simp), Lib.hid rfl⟩
 case round =>
  obtain ⟨j, M, hj, rfl, hgr, hgD, hown, hMl, hLie, hAp, HM⟩ := hrel
  by_cases hlt : j < P.length
  ·
   obtain ⟨x, hx⟩ : ∃ x, P[j] = x := ⟨_, rfl⟩
   obtain ⟨ad, rfl, hb, hx0, hx1, hx2, hx3, hx4⟩ := (hrD.gr hgD).at hlt
   have hmem := HP.out _ (List.getElem_mem hlt)
   rw [hx] at hx0 hx1 hx2 hx3 hx4 hmem
   have hlx := hmem.1
   have hvx := hmem.2
   have QO := fun w hr => own_any x.s x.A x.c w hlx hr
   have HM2 : Hid (∀ y : Sq, y.s = x.s → (M ++ [y]).map Sq.s = (P.take (j + 1)).map Sq.s) := Lib.hid (fun y hy => by
    rw [List.take_succ_eq_append_getElem hlt, List.map_append, List.map_append, HM.out, hx]
    simp [hy])
   clear hx hlx hmem HM
   go_wp2_with fail
   refine (QO _ ((hvx.gr hgr).gr (Gr.alloc (Gr.refl _) _))).mono ?_; rintro e' w5 ⟨A5, c5, rfl, hr5, hg5, hnew⟩
   have hbox := Gr.trans (Gr.alloc (Gr.refl wr) _) hg5
   have hown5 := own_gr hown hbox
   have gw5 := Gr.trans hgr hbox
   have gD5 := Gr.trans hgD hbox
   have hLie5 := hLie.gr hbox
   have hrx := Rl.new (W := w5) rfl 30 [⟨x.s, A5, c5⟩]
   have hv0 := hown5.alloc (.cells (scells [⟨x.s, A5, c5⟩]).toArray 30)
   have hvl := hown5.lt
   have z5 := gw5.size
   have z6 := gD5.size
   have z7 := gD.size
   have HNW := Lib.hid (fun (ad : Addr) (h : A5 = some ad) => new_apart hown (ad := ad) (by have h1 := hnew ad h; simp at h1; omega))
   clear hnew hg5 hx0 hx1 hx2 hx3 hx4
   go_wp2_with
    (
     at_builtin
     refine wpList_append_rd rfl (.tmp 55) (.tmp 58) 24 rfl wD.heap.size 30 i0 _ 5 64 Tryz.underlying24 hi0 hz0 hz1 hz2 rfl (by decide) _ j _ rfl hv0 (some ⟨w5.heap.size, 0, none⟩) 1 _ (scells [⟨x.s, A5, c5⟩]) rfl hrx (scells_one _) (by unfold maxLen; omega) (by omega) (by simp; omega) ?_
     intro v' w7 hown7 hgr7 hat7)
   have hg7 : Gr w w7 := Gr.grown (Gr.alloc gw5 _) hgr7 (fun j hj => by have := (hvl j hj).1; omega)
   have hgD7 : Gr wD w7 := Gr.grown (Gr.alloc gD5 _) hgr7 (fun j hj => (hvl j hj).1)
   have hLie7 : Lie w7 (M ++ [⟨x.s, A5, c5⟩]) := fun y hy => by
    rcases List.mem_append.1 hy with hy | hy
    ·
     exact Rv.grown ((hLie5 y hy).gr (Gr.alloc (Gr.refl w5) _)) hgr7 (fun hn ad h => hAp y hy hn ad h)
    ·
     rw [List.mem_singleton.1 hy]
     exact Rv.grown (hr5.gr (Gr.alloc (Gr.refl w5) _)) hgr7 (fun _ ad h => HNW.out ad h)
   have hAp7 : Apart v'.ownBlock (M ++ [⟨x.s, A5, c5⟩]) := fun y hy hn ad h => by
    rcases hat7 with e7 | e7
    ·
     rw [e7]
     rcases List.mem_append.1 hy with hy | hy
     ·
      exact hAp y hy hn ad h
     ·
      rw [List.mem_singleton.1 hy] at h; exact HNW.out ad h
    ·
     rw [e7]
     intro e8
     injection e8 with e8
     simp at e8
     rcases List.mem_append.1 hy with hy | hy
     ·
      have := (hLie5 y hy).blk hn h; omega
     ·
      rw [List.mem_singleton.1 hy] at h hn
      have := hr5.blk hn h; omega
   have hown8 : w7.ownsRow wD.heap.size 30 5 v' (j + 1) (scells (M ++ [⟨x.s, A5, c5⟩])) := by rw [scells_append]; exact hown7
   have HM3 := Lib.hid (HM2.out ⟨x.s, A5, c5⟩ rfl)
   clear hv0 hvl hgr7 hat7 hrx hown5 hown7 hown hLie hLie5 hAp hr5 hbox HM2
   go_roundw
   case rel => exact ⟨j + 1, M ++ [⟨x.s, A5, c5⟩], by omega, by go_num, hg7, hgD7, hown8, by simp [hMl], hLie7, hAp7, HM3⟩
   case measure => simp [intOf]; omega
  ·
   have hkk : j = P.length := by omega
   subst hkk
   obtain ⟨A', c', hvv⟩ := own_form hown
   subst hvv
   have hcap1 := own_cap hown
   have hRd := Rd.own hown
   have HJ : Hid (M.map Sq.s = P.map Sq.s) := Lib.hid (by rw [HM.out, List.take_length])
   have HE2 : Hid (Ending.returned (.tuple #[.slice A' P.length c', .int .i64 0]) = Ending.returned (.tuple #[.slice A' M.length c', .int .i64 0])) := Lib.hid (by rw [hMl])
   have hRl : Rl wr A' M := by unfold Rl; rw [hMl]; exact hRd
   have HMC : Hid (M.length ≤ c') := Lib.hid (by rw [hMl]; exact hcap1)
   clear hMl HM hAp hown hRd
   go_wp2
   go_ret2
   exact ⟨A', M, c', HE2.out, HJ.out, HMC.out, hRl, hLie, hgr⟩

/-- what a function picks of series, where no expression is asked; the error. -/
def applyE (nm : ByteArray) (S : List Sr) : Int := if (findF nm).isSome = true then (if S.all isS = true then 0 else 1) else 9
def applyS (nm : ByteArray) (k : Vl) (S : List Sr) : List Sr := if applyE nm S = 0 then pickA id (rowF nm) (normV k) S else []
theorem pick_s (r : Fr) (k : Vl) (L : List Sq) : (pickA Sq.s r k L).map Sq.s = pickA id r k (L.map Sq.s) := pickA_map Sq.s id r k L
theorem okL_s (L : List Sq) : (L.map Sq.s).all isS = okL L := (okL_all L).symm
theorem apply_any (nm text : ByteArray) (k : Vl) (A : Option Addr) (c : Nat) (L : List Sq) (w : World) (h1 : (findF nm).isSome = true → 1 ≤ (rowF nm).kind ∧ (rowF nm).kind ≤ 7) (h20 : L.length ≤ 20) (hcap : L.length ≤ c) (hle : ∀ x ∈ L, x.s.vals.length ≤ 1000000) (hr : Rl w A L) (hv : Lie w L) :
  Calls Tryz.prog 18 #[.string nm, .agg #[.bool k.ok, .int .i64 k.n], .string text, .slice A L.length c] w (RetA (applyE nm (L.map Sq.s)) (applyS nm k (L.map Sq.s)) w) := by
 cases hf : (findF nm).isSome
 ·
  rw [show applyE nm (L.map Sq.s) = 9 by unfold applyE; rw [hf]; rfl, show applyS nm k (L.map Sq.s) = [] by unfold applyS applyE; rw [hf]; rfl]
  exact apply_no nm text k A c L w hf
 ·
  cases hok : okL L
  ·
   have hE : applyE nm (L.map Sq.s) = 1 := by unfold applyE; rw [hf, okL_s, hok]; rfl
   rw [show applyS nm k (L.map Sq.s) = [] by unfold applyS; rw [hE]; rfl, hE]
   exact apply_bad nm text k A c L w hf hok h20 hr hv
  ·
   have hE : applyE nm (L.map Sq.s) = 0 := by unfold applyE; rw [hf, okL_s, hok]; rfl
   rw [show applyS nm k (L.map Sq.s) = (pickA Sq.s (rowF nm) (normV k) L).map Sq.s by unfold applyS; rw [hE, pick_s]; rfl, hE]
   cases hk : isB k
   ·
    exact apply_none nm text k A c L w hf hok hk (h1 hf).1 (h1 hf).2 h20 hcap hle hr hv
   ·
    exact apply_yes nm text k A c L w hf hok hk (h1 hf).1 (h1 hf).2 h20 hcap hle hr hv
end Go.Proofs.YtbdichmkgcngbaaGreat
