/- The law FpickParts of chapter 23, walked over the contracts. -/
import Derived.Test.YtbdichmkgcngbaaGreatRunFpApplT
import Derived.Test.YtbdichmkgcngbaaGreatFpOfR
namespace Go.Proofs.YtbdichmkgcngbaaGreat
set_option linter.unusedVariables false
set_option linter.unusedSimpArgs false
open Go.RowKit

def scellsM (L : List ByteArray) : List Value := L.map Value.string
theorem scellsM_at (L : List ByteArray) (k : Nat) (h : k < L.length) : (scellsM L)[k]? = some (.string L[k]) := by
 unfold scellsM; rw [List.getElem?_map, List.getElem?_eq_getElem h]; rfl
set_option maxRecDepth 100000 in
set_option maxHeartbeats 12800000 in
theorem law_FpickParts (text : ByteArray) (ok : Bool) (n : Int) (A : Option Addr) (c : Nat) (L : List Sq) (w : World) (hcap : L.length ≤ c) (hr : Rl w A L) (hv : Lie w L) :
  Calls Tryz.prog 3 #[.string text, .agg #[.bool ok, .int .i64 n], .slice A L.length c] w fun e w' => e = .returned (.bool true) ∧ Gr w w' := by
 obtain ⟨k, hkk⟩ : ∃ k : Vl, k = ⟨ok, n⟩ := ⟨_, rfl⟩
 obtain rfl : ok = k.ok := by rw [hkk]
 obtain rfl : n = k.n := by rw [hkk]
 clear hkk
 have gb : Gr w (w.alloc (.cells #[.bool k.ok, .int .i64 k.n] 23)) := Gr.alloc (Gr.refl _) _
 have hVA : VAt (w.alloc (.cells #[.bool k.ok, .int .i64 k.n] 23)) w.heap.size k := by
  refine ⟨?_, ?_, ?_⟩
  all_goals first | (go_simp; done) | (simp; done)
 have HH := Lib.hid (heavy23_any A c L (w.alloc (.cells #[.bool k.ok, .int .i64 k.n] 23)) (hr.gr gb))
 go_enter Tryz.func3, Tryz.ntmps3
 go_wp2_with fail
 refine HH.out.mono ?_
 rintro e w1 ⟨⟨b, rfl, hb⟩, g1⟩
 have gw1 := Gr.trans gb g1
 have hVA1 := hVA.gr g1
 clear HH gb hVA g1
 cases b
 case true =>
  go_wp2
  go_ret
  exact ⟨rfl, gw1⟩
 obtain ⟨hl20, hLt⟩ := hb rfl
 have HLE : Hid (∀ x ∈ L, x.s.vals.length ≤ 1000000) := Lib.hid (fun x hx => by have := (hLt x hx).1; omega)
 have HNM : Hid (∀ x ∈ L, x.s.name.size ≤ 4096) := Lib.hid (fun x hx => by have := (hLt x hx).2; omega)
 clear hLt hb
 by_cases h100 : (100 : Int) < (text.size : Int)
 ·
  go_wp2
  go_ret
  exact ⟨rfl, gw1⟩
 have HTX : Hid (text.size ≤ 500) := Lib.hid (by omega)
 have hl : (L.length : Int) ≤ 20 := by omega
 have QK := fun W => rkn_any k W
 obtain ⟨k0, k1, kz⟩ := id hVA1
 cases hkn : knB k
 ·
  rw [hkn] at QK
  go_wp2_with fail
  refine (QK _).mono ?_; rintro e w2 ⟨rfl, g2⟩
  go_wp2
  go_ret
  exact ⟨rfl, Gr.trans gw1 g2⟩
 rw [hkn] at QK
 have HKN := Lib.hid hkn
 clear hkn
 go_wp2_with fail
 refine (QK _).mono ?_; rintro e w2 ⟨rfl, g2⟩
 have gw2 := Gr.trans gw1 g2
 have hVA2 := hVA1.gr g2
 clear QK k0 k1 kz g2 gw1 hVA1
 go_wp2
 go_loopw [7] (fun i wr => ∃ j : Nat, j ≤ L.length ∧ i = .int .i64 j ∧ Gr w wr ∧ VAt wr w.heap.size k ∧ Hid (∀ i (h : i < L.length), i < j → isS L[i].s = true)) (fun i _ => L.length - (intOf i).toNat)
 case atStart => exact ⟨0, Nat.zero_le _, rfl, gw2, hVA2, Lib.hid (fun i _ h => absurd h (Nat.not_lt_zero _))⟩
 case round =>
  clear gw2 hVA2
  obtain ⟨j, hj, rfl, hgr, hVA, HA⟩ := hrel
  by_cases hlt : j < L.length
  ·
   obtain ⟨x, hx⟩ : ∃ x, L[j] = x := ⟨_, rfl⟩
   obtain ⟨ad, rfl, hb, hx0, hx1, hx2, hx3, hx4⟩ := (hr.gr hgr).at hlt
   have hvx := (hv _ (List.getElem_mem hlt)).gr hgr
   rw [hx] at hx0 hx1 hx2 hx3 hx4 hvx
   have QI := fun w hr => rsis_any x.s x.A x.c w hr
   cases hsx : isS x.s
   ·
    simp only [hsx] at QI
    clear hx hsx
    go_wp2_with fail
    refine (QI _ hvx).mono ?_; rintro e w5 ⟨rfl, hg⟩
    clear hx0 hx1 hx2 hx3 hx4
    go_wp2
    go_ret
    exact ⟨rfl, Gr.trans hgr hg⟩
   ·
    have HA2 : Hid (∀ i (h : i < L.length), i < j + 1 → isS L[i].s = true) := Lib.hid (fun i h hi => by
     by_cases e : i = j
     ·
      subst e; rw [hx]; exact hsx
     ·
      exact HA.out i h (by omega))
    simp only [hsx] at QI
    clear hx hsx HA
    go_wp2_with fail
    refine (QI _ hvx).mono ?_; rintro e w5 ⟨rfl, hg⟩
    have gw5 := Gr.trans hgr hg
    have hVA5 := hVA.gr hg
    clear hx0 hx1 hx2 hx3 hx4 hg
    go_wp2
    go_roundw
    case rel => exact ⟨j + 1, by omega, by go_num, gw5, hVA5, HA2⟩
    case measure => simp [intOf]; omega
  have HOK : Hid ((L.map Sq.s).all isS = true) := Lib.hid (by
   rw [okL_s]
   exact List.all_eq_true.2 (fun x hx => by obtain ⟨i, hi, rfl⟩ := List.getElem_of_mem hx; exact HA.out i hi (by omega)))
  obtain ⟨S, hS⟩ : ∃ S, L.map Sq.s = S := ⟨_, rfl⟩
  have HSL : Hid (S.length = L.length) := Lib.hid (by rw [← hS]; simp)
  have HS := Lib.hid hS
  have HAP : Hid (∀ nm tx, tx.size ≤ 500 → ∀ w', Gr w w' → Calls Tryz.prog 18 #[.string nm, .agg #[.bool k.ok, .int .i64 k.n], .string tx, .slice A L.length c] w' (RetA (applyTE nm tx S) (applyTS nm tx k S) w')) := Lib.hid (fun nm tx htx w' hg => by
   rw [← hS]
   exact applyt_any nm tx k A c L w' htx HNM.out hl20 hcap HLE.out (hr.gr hg) (hv.gr hg))
  rw [hS] at HOK
  clear hS HA
  have hkk : j = L.length := by omega
  subst hkk
  clear hj
  obtain ⟨pf1, pf2, pf3⟩ := parts_find text k S HOK.out
  have Q1 := fun w' hg => HAP.out ⟨#[103, 114, 101, 112]⟩ text HTX.out w' hg
  have Q2 := fun w' hg => HAP.out ⟨#[101, 120, 99, 108, 117, 100, 101]⟩ text HTX.out w' hg
  rw [pf1] at Q1
  rw [pf2] at Q2
  obtain ⟨T1, hT1⟩ : ∃ T1, applyTS ⟨#[103, 114, 101, 112]⟩ text k S = T1 := ⟨_, rfl⟩
  obtain ⟨T2, hT2⟩ : ∃ T2, applyTS ⟨#[101, 120, 99, 108, 117, 100, 101]⟩ text k S = T2 := ⟨_, rfl⟩
  rw [hT1] at Q1 pf3
  rw [hT2] at Q2 pf3
  obtain ⟨E, hE⟩ : ∃ E, errX text.data.toList = E := ⟨_, rfl⟩
  rw [hE] at Q1 Q2 pf3
  have HT := Lib.hid pf3
  have HQ1 := Lib.hid Q1
  have HQ2 := Lib.hid Q2
  clear pf1 pf2 pf3 hT1 hT2 hE Q1 Q2
  obtain ⟨k0, k1, kz⟩ := id hVA
  go_wp2_with fail
  refine (HQ1.out _ hgr).mono ?_; rintro e wX ⟨AX, X, cX, rfl, hX, -, -, -, gX⟩
  have gwX := Gr.trans hgr gX
  have hVX := hVA.gr gX
  have HX1 : Hid (X.length = T1.length) := Lib.hid (by rw [← hX]; simp)
  clear k0 k1 kz hVA hgr gX hX HQ1
  obtain ⟨k0, k1, kz⟩ := id hVX
  go_wp2_with fail
  refine (HQ2.out _ gwX).mono ?_; rintro e wY ⟨AY, Y, cY, rfl, hY, -, -, -, gY⟩
  have gwY := Gr.trans gwX gY
  have hVY := hVX.gr gY
  have HSUM : Hid (E = 0 → X.length + Y.length = L.length) := Lib.hid (fun h0 => by
   have h1 := HT.out h0
   have h2 : Y.length = T2.length := by rw [← hY]; simp
   rw [HX1.out, h2, h1, HSL.out])
  clear k0 k1 kz hVX gwX gY hY HQ2 HX1 HT
  go_upto_region 10 with (fail)
  go_cut [74] from 58 to 75 (fun p wx => p = .bool false ∧ Gr wY wx)
  case first =>
   have eE : (E != E) = false := by simp
   cases he : (E == 0)
   ·
    go_wp2_with fail
    go_meet
    exact ⟨rfl, Gr.refl _⟩
   ·
    have hs := HSUM.out (by simpa using he)
    have hx20 : (X.length : Int) ≤ 20 := by omega
    have hy20 : (Y.length : Int) ≤ 20 := by omega
    have hsum : ((X.length : Int) + (Y.length : Int) != (L.length : Int)) = false := by
     rw [bne_eq_false_iff_eq]
     omega
    clear hs
    go_wp2_with fail
    go_meet
    exact ⟨rfl, Gr.refl _⟩
  case rest =>
   obtain ⟨rfl, gc⟩ := hcut
   have gwc := Gr.trans gwY gc
   have hVc := hVY.gr gc
   have hnr := Rd.new (W := wc) rfl 9 (n := 4) (size := 1) (scellsM partN) rfl
   have hgn : Gr w (wc.alloc (.cells (scellsM partN).toArray 9)) := Gr.alloc gwc _
   have hVn := hVc.gr (Gr.alloc (Gr.refl wc) (.cells (scellsM partN).toArray 9))
   clear gwY hVY gc gwc hVc HSUM
   go_wp2
   obtain ⟨ad, had⟩ : ∃ ad : Addr, ad = ⟨wc.heap.size, 0, none⟩ := ⟨_, rfl⟩
   rw [← had] at hnr ⊢
   clear had
   go_loopw [13] (fun i wr => ∃ m : Nat, m ≤ 4 ∧ i = .int .i64 m ∧ Gr w wr ∧ VAt wr w.heap.size k ∧ Rd wr 1 (some ad) 4 (scellsM partN)) (fun i _ => 4 - (intOf i).toNat)
   case atStart => exact ⟨0, Nat.zero_le _, rfl, hgn, hVn, hnr⟩
   case round =>
    clear hgn hVn hnr
    obtain ⟨m, hm, rfl, hgr, hVA, hnr⟩ := hrel
    by_cases hlt : m < 4
    ·
     obtain ⟨f1, k1, b1, f2, k2, b2, z1, z2, z3⟩ := part_row m hlt
     obtain ⟨nm, hnm⟩ : ∃ nm, nm = partN[m]'hlt := ⟨_, rfl⟩
     obtain ⟨ad', e', hbn, hcn⟩ := id hnr.2 (by decide)
     injection e' with e'
     subst e'
     have hx0 := hcn m _ (scellsM_at partN m hlt)
     rw [← hnm] at hx0 f1 k1 b1 f2 k2 b2 z1 z2 z3
     obtain ⟨s1, s2, s3⟩ := parts_above (text := ⟨#[]⟩) (k := k) HOK.out HKN.out f1 k1 b1 f2 k2 b2
     have Q1 := fun w' hg => HAP.out (nm ++ ⟨#[65, 98, 111, 118, 101]⟩) ⟨#[]⟩ (by decide) w' hg
     have Q2 := fun w' hg => HAP.out (nm ++ ⟨#[66, 101, 108, 111, 119]⟩) ⟨#[]⟩ (by decide) w' hg
     rw [s1] at Q1
     rw [s2] at Q2
     obtain ⟨na, hna⟩ : ∃ na, nm ++ ⟨#[65, 98, 111, 118, 101]⟩ = na := ⟨_, rfl⟩
     obtain ⟨nb, hnb⟩ : ∃ nb, nm ++ ⟨#[66, 101, 108, 111, 119]⟩ = nb := ⟨_, rfl⟩
     have za : (nm ++ ⟨#[65, 98, 111, 118, 101]⟩).size ≤ 20 := z1
     have zb : (nm ++ ⟨#[66, 101, 108, 111, 119]⟩).size ≤ 20 := z2
     have zai : ((nm ++ ⟨#[65, 98, 111, 118, 101]⟩).size : Int) ≤ 20 := by omega
     have zbi : ((nm ++ ⟨#[66, 101, 108, 111, 119]⟩).size : Int) ≤ 20 := by omega
     have HQ1 := Lib.hid Q1
     have HQ2 := Lib.hid Q2
     have HS3 := Lib.hid s3
     have hmi : (m : Int) < 4 := by omega
     have hc5 : ¬ 9223372036854775807 < nm.size + 5 := by omega
     clear f1 k1 b1 f2 k2 b2 z1 z2 s1 s2 s3 Q1 Q2 hnm hcn hna hnb na nb
     go_upto_region 16 with (fail)
     have HF : Hid (∀ W, Gr wr W → W.cell? (ad.add m) = some (.string nm) ∧ W.cell? ⟨w.heap.size, 0, none⟩ = some (.bool k.ok) ∧ W.cell? ⟨w.heap.size, 1, none⟩ = some (.int .i64 k.n)) := Lib.hid fun W hW => ⟨(hW.cell (p := ad.add m) (by rw [add_blk]; exact hbn)).trans hx0, (hVA.gr hW).1, (hVA.gr hW).2.1⟩
     have HGW := Lib.hid (And.intro hgr (And.intro hVA (And.intro hnr hbn)))
     clear hx0 hgr hVA hnr hbn
     refine wp_region_Z 12 (fun W => Gr wr W) (by kernel_rfl) ?_
     have hS0 : Gr wr wr.drew := Gr.drew (Gr.refl _)
     refine wpAnyZ_take (i := 0) (v := ?v64) rfl (by kernel_rfl) (fun _ _ _ h => h) (by rfl) (fun W hS => ?h64) hS0 ?r64
     case h64 => go_simp; rfl
     simp only [Act.put, List.getElem_toArray, List.getElem_cons_succ, List.getElem_cons_zero, List.setIfInBounds_toArray, List.set_cons_zero, List.set_cons_succ]
     refine wpAnyZ_take (i := 1) (v := ?v65) rfl (by kernel_rfl) (fun _ _ _ h => h) (by rfl) (fun W hS => ?h65) hS0 ?r65
     case h65 => go_simp; rfl
     simp only [Act.put, List.getElem_toArray, List.getElem_cons_succ, List.getElem_cons_zero, List.setIfInBounds_toArray, List.set_cons_zero, List.set_cons_succ]
     refine wpAnyZ_take (i := 2) (v := ?v66) rfl (by kernel_rfl) (fun _ _ _ h => h) (by rfl) (fun W hS => ?h66) hS0 ?r66
     case h66 => go_simp; rfl
     simp only [Act.put, List.getElem_toArray, List.getElem_cons_succ, List.getElem_cons_zero, List.setIfInBounds_toArray, List.set_cons_zero, List.set_cons_succ]
     refine wpAnyZ_take (i := 3) (v := ?v67) rfl (by kernel_rfl) (fun _ _ _ h => h) (by rfl) (fun W hS => ?h67) hS0 ?r67
     case h67 => obtain ⟨x0, k0, k1⟩ := HF.out _ hS; go_simp; rfl
     simp only [Act.put, List.getElem_toArray, List.getElem_cons_succ, List.getElem_cons_zero, List.setIfInBounds_toArray, List.set_cons_zero, List.set_cons_succ]
     refine wpAnyZ_take (i := 4) (v := ?v68) rfl (by kernel_rfl) (fun _ _ _ h => h) (by rfl) (fun W hS => ?h68) hS0 ?r68
     case h68 => go_simp; rfl
     simp only [Act.put, List.getElem_toArray, List.getElem_cons_succ, List.getElem_cons_zero, List.setIfInBounds_toArray, List.set_cons_zero, List.set_cons_succ]
     refine wpAnyZ_take (i := 5) (v := ?v69) rfl (by kernel_rfl) (fun _ _ _ h => h) (by rfl) (fun W hS => ?h69) hS0 ?r69
     case h69 => obtain ⟨x0, k0, k1⟩ := HF.out _ hS; go_simp; rfl
     simp only [Act.put, List.getElem_toArray, List.getElem_cons_succ, List.getElem_cons_zero, List.setIfInBounds_toArray, List.set_cons_zero, List.set_cons_succ]
     refine wpAnyZ_take (i := 6) (v := ?v70) rfl (by kernel_rfl) (fun _ _ _ h => h) (by rfl) (fun W hS => ?h70) hS0 ?r70
     case h70 => go_simp; rfl
     simp only [Act.put, List.getElem_toArray, List.getElem_cons_succ, List.getElem_cons_zero, List.setIfInBounds_toArray, List.set_cons_zero, List.set_cons_succ]
     refine wpAnyZ_ready (rs := [7]) (by kernel_rfl) (by simp) ?_
     refine AllReadyZ.cons rfl (by rfl) (fun K hK => ?_) ?_
     rotate_left
     exact AllReadyZ.nil
     go_simp
     refine (HQ1.out _ (Gr.trans HGW.out.1 hS0)).mono ?_; rintro e wX ⟨AX, X, cX, rfl, hX, -, -, -, gX⟩
     have hS7 := hS0.trans gX
     go_wp2_with fail
     refine hK.out _ _ (fun hnz => ?s71) (fun _ => ?r71)
     case s71 => exact hS7
     clear hK K
     try simp only [Pu, List.getElem_toArray, List.getElem_cons_succ, List.getElem_cons_zero]
     refine wpAnyZ_take (i := 8) (v := ?v72) rfl (by kernel_rfl) (fun _ _ _ h => h) (by rfl) (fun W hS => ?h72) hS7 ?r72
     case h72 => go_simp; rfl
     simp only [Act.put, List.getElem_toArray, List.getElem_cons_succ, List.getElem_cons_zero, List.setIfInBounds_toArray, List.set_cons_zero, List.set_cons_succ]
     refine wpAnyZ_take (i := 9) (v := ?v73) rfl (by kernel_rfl) (fun _ _ _ h => h) (by rfl) (fun W hS => ?h73) hS7 ?r73
     case h73 => go_simp; rfl
     simp only [Act.put, List.getElem_toArray, List.getElem_cons_succ, List.getElem_cons_zero, List.setIfInBounds_toArray, List.set_cons_zero, List.set_cons_succ]
     refine wpAnyZ_take (i := 10) (v := ?v74) rfl (by kernel_rfl) (fun _ _ _ h => h) (by rfl) (fun W hS => ?h74) hS7 ?r74
     case h74 => go_simp; rfl
     simp only [Act.put, List.getElem_toArray, List.getElem_cons_succ, List.getElem_cons_zero, List.setIfInBounds_toArray, List.set_cons_zero, List.set_cons_succ]
     refine wpAnyZ_take (i := 11) (v := ?v75) rfl (by kernel_rfl) (fun _ _ _ h => h) (by rfl) (fun W hS => ?h75) hS7 ?r75
     case h75 => go_simp; rfl
     simp only [Act.put, List.getElem_toArray, List.getElem_cons_succ, List.getElem_cons_zero, List.setIfInBounds_toArray, List.set_cons_zero, List.set_cons_succ]
     refine wpAnyZ_ready (rs := [12]) (by kernel_rfl) (by simp) ?_
     refine AllReadyZ.cons rfl (by rfl) (fun K hK => ?_) ?_
     rotate_left
     exact AllReadyZ.nil
     go_wp2_with fail
     refine hK.out _ _ (fun hnz => ?s76) (fun _ => ?r76)
     case s76 => exact absurd rfl hnz
     clear hK K
     try simp only [Pu, List.getElem_toArray, List.getElem_cons_succ, List.getElem_cons_zero]
     refine wpAnyZ_done (by kernel_rfl) ?_ _
     have HX1 : Hid (X.length = (applyTS (nm ++ ⟨#[65, 98, 111, 118, 101]⟩) ⟨#[]⟩ k S).length) := Lib.hid (by rw [← hX]; simp)
     have G16 := Lib.hid hS7
     clear hS7 hS0 hX gX HQ1
     go_upto_region 17 with (fail)
     refine wp_region_Z 12 (fun W => Gr wX W) (by kernel_rfl) ?_
     have hS0 : Gr wX wX.drew := Gr.drew (Gr.refl _)
     refine wpAnyZ_take (i := 0) (v := ?v77) rfl (by kernel_rfl) (fun _ _ _ h => h) (by rfl) (fun W hS => ?h77) hS0 ?r77
     case h77 => go_simp; rfl
     simp only [Act.put, List.getElem_toArray, List.getElem_cons_succ, List.getElem_cons_zero, List.setIfInBounds_toArray, List.set_cons_zero, List.set_cons_succ]
     refine wpAnyZ_take (i := 1) (v := ?v78) rfl (by kernel_rfl) (fun _ _ _ h => h) (by rfl) (fun W hS => ?h78) hS0 ?r78
     case h78 => go_simp; rfl
     simp only [Act.put, List.getElem_toArray, List.getElem_cons_succ, List.getElem_cons_zero, List.setIfInBounds_toArray, List.set_cons_zero, List.set_cons_succ]
     refine wpAnyZ_take (i := 2) (v := ?v79) rfl (by kernel_rfl) (fun _ _ _ h => h) (by rfl) (fun W hS => ?h79) hS0 ?r79
     case h79 => go_simp; rfl
     simp only [Act.put, List.getElem_toArray, List.getElem_cons_succ, List.getElem_cons_zero, List.setIfInBounds_toArray, List.set_cons_zero, List.set_cons_succ]
     refine wpAnyZ_take (i := 3) (v := ?v80) rfl (by kernel_rfl) (fun _ _ _ h => h) (by rfl) (fun W hS => ?h80) hS0 ?r80
     case h80 => obtain ⟨x0, k0, k1⟩ := HF.out _ (Gr.trans G16.out hS); go_simp; rfl
     simp only [Act.put, List.getElem_toArray, List.getElem_cons_succ, List.getElem_cons_zero, List.setIfInBounds_toArray, List.set_cons_zero, List.set_cons_succ]
     refine wpAnyZ_take (i := 4) (v := ?v81) rfl (by kernel_rfl) (fun _ _ _ h => h) (by rfl) (fun W hS => ?h81) hS0 ?r81
     case h81 => go_simp; rfl
     simp only [Act.put, List.getElem_toArray, List.getElem_cons_succ, List.getElem_cons_zero, List.setIfInBounds_toArray, List.set_cons_zero, List.set_cons_succ]
     refine wpAnyZ_take (i := 5) (v := ?v82) rfl (by kernel_rfl) (fun _ _ _ h => h) (by rfl) (fun W hS => ?h82) hS0 ?r82
     case h82 => obtain ⟨x0, k0, k1⟩ := HF.out _ (Gr.trans G16.out hS); go_simp; rfl
     simp only [Act.put, List.getElem_toArray, List.getElem_cons_succ, List.getElem_cons_zero, List.setIfInBounds_toArray, List.set_cons_zero, List.set_cons_succ]
     refine wpAnyZ_take (i := 6) (v := ?v83) rfl (by kernel_rfl) (fun _ _ _ h => h) (by rfl) (fun W hS => ?h83) hS0 ?r83
     case h83 => go_simp; rfl
     simp only [Act.put, List.getElem_toArray, List.getElem_cons_succ, List.getElem_cons_zero, List.setIfInBounds_toArray, List.set_cons_zero, List.set_cons_succ]
     refine wpAnyZ_ready (rs := [7]) (by kernel_rfl) (by simp) ?_
     refine AllReadyZ.cons rfl (by rfl) (fun K hK => ?_) ?_
     rotate_left
     exact AllReadyZ.nil
     go_simp
     refine (HQ2.out _ (Gr.trans HGW.out.1 (Gr.trans G16.out hS0))).mono ?_; rintro e wY ⟨AY, Y, cY, rfl, hY, -, -, -, gY⟩
     have hS7 := hS0.trans gY
     go_wp2_with fail
     refine hK.out _ _ (fun hnz => ?s84) (fun _ => ?r84)
     case s84 => exact hS7
     clear hK K
     try simp only [Pu, List.getElem_toArray, List.getElem_cons_succ, List.getElem_cons_zero]
     refine wpAnyZ_take (i := 8) (v := ?v85) rfl (by kernel_rfl) (fun _ _ _ h => h) (by rfl) (fun W hS => ?h85) hS7 ?r85
     case h85 => go_simp; rfl
     simp only [Act.put, List.getElem_toArray, List.getElem_cons_succ, List.getElem_cons_zero, List.setIfInBounds_toArray, List.set_cons_zero, List.set_cons_succ]
     refine wpAnyZ_take (i := 9) (v := ?v86) rfl (by kernel_rfl) (fun _ _ _ h => h) (by rfl) (fun W hS => ?h86) hS7 ?r86
     case h86 => go_simp; rfl
     simp only [Act.put, List.getElem_toArray, List.getElem_cons_succ, List.getElem_cons_zero, List.setIfInBounds_toArray, List.set_cons_zero, List.set_cons_succ]
     refine wpAnyZ_take (i := 10) (v := ?v87) rfl (by kernel_rfl) (fun _ _ _ h => h) (by rfl) (fun W hS => ?h87) hS7 ?r87
     case h87 => go_simp; rfl
     simp only [Act.put, List.getElem_toArray, List.getElem_cons_succ, List.getElem_cons_zero, List.setIfInBounds_toArray, List.set_cons_zero, List.set_cons_succ]
     refine wpAnyZ_take (i := 11) (v := ?v88) rfl (by kernel_rfl) (fun _ _ _ h => h) (by rfl) (fun W hS => ?h88) hS7 ?r88
     case h88 => go_simp; rfl
     simp only [Act.put, List.getElem_toArray, List.getElem_cons_succ, List.getElem_cons_zero, List.setIfInBounds_toArray, List.set_cons_zero, List.set_cons_succ]
     refine wpAnyZ_ready (rs := [12]) (by kernel_rfl) (by simp) ?_
     refine AllReadyZ.cons rfl (by rfl) (fun K hK => ?_) ?_
     rotate_left
     exact AllReadyZ.nil
     go_wp2_with fail
     refine hK.out _ _ (fun hnz => ?s89) (fun _ => ?r89)
     case s89 => exact absurd rfl hnz
     clear hK K
     try simp only [Pu, List.getElem_toArray, List.getElem_cons_succ, List.getElem_cons_zero]
     refine wpAnyZ_done (by kernel_rfl) ?_ _
     have HY1 : Hid (Y.length = (applyTS (nm ++ ⟨#[66, 101, 108, 111, 119]⟩) ⟨#[]⟩ k S).length) := Lib.hid (by rw [← hY]; simp)
     have G17 := Lib.hid (Gr.trans G16.out hS7)
     clear hS7 hS0 hY gY HQ2
     obtain ⟨pn, hpn⟩ : ∃ pn : Sr → Bool, pn = fun s => !(ofR (rowF (nm ++ ⟨#[65, 98, 111, 118, 101]⟩)).by_ s.vals).ok := ⟨_, rfl⟩
     have HPN := Lib.hid hpn
     have HSUM : Hid (X.length + Y.length + (L.filter fun x => pn x.s).length = L.length) := Lib.hid (by
      have h1 := HS3.out
      rw [← hpn, HSL.out] at h1
      have h2 : (S.filter pn).length = (L.filter fun x => pn x.s).length := by
       rw [← HS.out, List.filter_map, List.length_map]
       rfl
      rw [HX1.out, HY1.out, ← h2]
      exact h1)
     clear hpn HX1 HY1 HS3
     go_wp2
     obtain ⟨wo, hwo⟩ : ∃ wo, wo = wr := ⟨_, rfl⟩
     subst hwo
     go_loopw [18, 19] (fun cn i wr => ∃ q : Nat, q ≤ L.length ∧ i = .int .i64 q ∧ cn = .int .i64 (((L.take q).filter fun x => pn x.s).length : Nat) ∧ Gr wo wr) (fun _ i _ => L.length - (intOf i).toNat)
     case atStart => exact ⟨0, Nat.zero_le _, rfl, rfl, G17.out⟩
     case round =>
      obtain ⟨q, hq, rfl, rfl, hgq⟩ := hrel
      have hcl : ((L.take q).filter fun x => pn x.s).length ≤ 20 := Nat.le_trans (List.length_filter_le _ _) (by rw [List.length_take]; omega)
      by_cases hlq : q < L.length
      ·
       obtain ⟨x, hx⟩ : ∃ x, L[q] = x := ⟨_, rfl⟩
       obtain ⟨al, rfl, hb, hx0, hx1, hx2, hx3, hx4⟩ := ((hr.gr HGW.out.1).gr hgq).at hlq
       have hvx := (hv _ (List.getElem_mem hlq)).gr (Gr.trans HGW.out.1 hgq)
       have hlx := HLE.out _ (List.getElem_mem hlq)
       rw [hx] at hx0 hx1 hx2 hx3 hx4 hvx hlx
       have HX : Hid (∀ W, Gr wr W → W.cell? (al.add (q * 5)) = some (.string x.s.name) ∧ W.cell? ⟨(al.add (q * 5)).block, (al.add (q * 5)).off + 1, none⟩ = some (.int .i64 x.s.start) ∧ W.cell? ⟨(al.add (q * 5)).block, (al.add (q * 5)).off + 2, none⟩ = some (.int .i64 x.s.step) ∧ W.cell? ⟨(al.add (q * 5)).block, (al.add (q * 5)).off + 3, none⟩ = some (.slice x.A x.s.vals.length x.c) ∧ W.cell? ⟨(al.add (q * 5)).block, (al.add (q * 5)).off + 4, none⟩ = some (.int .i64 x.s.cons) ∧ W.cell? (ad.add m) = some (.string nm)) := Lib.hid (fun W hW => ⟨(hW.cell (p := al.add (q * 5)) (by rw [add_blk]; exact hb)).trans hx0, (hW.cell (p := ⟨(al.add (q * 5)).block, (al.add (q * 5)).off + 1, none⟩) (by show (al.add (q * 5)).block < _; rw [add_blk]; exact hb)).trans hx1, (hW.cell (p := ⟨(al.add (q * 5)).block, (al.add (q * 5)).off + 2, none⟩) (by show (al.add (q * 5)).block < _; rw [add_blk]; exact hb)).trans hx2, (hW.cell (p := ⟨(al.add (q * 5)).block, (al.add (q * 5)).off + 3, none⟩) (by show (al.add (q * 5)).block < _; rw [add_blk]; exact hb)).trans hx3, (hW.cell (p := ⟨(al.add (q * 5)).block, (al.add (q * 5)).off + 4, none⟩) (by show (al.add (q * 5)).block < _; rw [add_blk]; exact hb)).trans hx4, (HF.out W (Gr.trans hgq hW)).1⟩)
       have hQR := fun (W : World) (hW : Gr wr W) => rfof_any (nm ++ ⟨#[65, 98, 111, 118, 101]⟩) x.s x.A x.c W hlx (hvx.gr hW)
       unfold RetVl aggSr at hQR
       have hT : ((L.take (q + 1)).filter fun x => pn x.s).length = ((L.take q).filter fun x => pn x.s).length + if pn x.s = true then 1 else 0 := by
        rw [List.take_succ_eq_append_getElem hlq, List.filter_append, List.length_append, hx, List.filter_cons]
        cases pn x.s <;> rfl
       rw [show pn x.s = !(ofR (rowF (nm ++ ⟨#[65, 98, 111, 118, 101]⟩)).by_ x.s.vals).ok by rw [HPN.out]] at hT
       generalize ofR (rowF (nm ++ ⟨#[65, 98, 111, 118, 101]⟩)).by_ x.s.vals = v at hQR hT
       have HT := Lib.hid hT
       have QR := Lib.hid hQR
       generalize hcn : ((L.take q).filter fun x => pn x.s).length = cn at HT hcl ⊢
       have hcni : (cn : Int) ≤ 20 := by omega
       clear hx hx0 hx1 hx2 hx3 hx4 hT hQR hcn
       go_upto_region 22 with (fail)
       refine region_Q (by kernel_rfl) (by kernel_rfl) ?_
       iterate 3 (refine q_val (v := ?_) (by rfl) (fun W hW => ?_) ?_; rotate_left; (focus go_simp; rfl); simp only [Pu])
       refine q_val (v := ?qv48) (by rfl) (fun W hW => ?qh48) ?qr48
       case qh48 => obtain ⟨x0, x1, x2, x3, x4, n0⟩ := HX.out W hW; go_simp; rfl
       simp only [Pu]
       iterate 4 (refine q_val (v := ?_) (by rfl) (fun W hW => ?_) ?_; rotate_left; (focus go_simp; rfl); simp only [Pu])
       refine q_val (v := ?qv53) (by rfl) (fun W hW => ?qh53) ?qr53
       case qh53 => obtain ⟨x0, x1, x2, x3, x4, n0⟩ := HX.out W hW; go_simp; rfl
       simp only [Pu]
       refine q_call (v := .agg #[.bool v.ok, .int .i64 v.n]) (f := ?qf54) (args := ?qa54) (by rfl) (fun W hW => ?qh54) (fun W hW => ?qc54) ?qr54
       case qh54 => go_simp; constructor <;> rfl
       case qc54 => exact (QR.out W hW).mono (fun e w' h => ⟨h.1, Gr.trans hW h.2⟩)
       simp only [Pu]
       iterate 2 (refine q_val (v := ?_) (by rfl) (fun W hW => ?_) ?_; rotate_left; (focus go_simp; rfl); simp only [Pu])
       refine wpQuiet_nil ?_
       intro w6 hg6
       have gq6 := Gr.trans hgq hg6
       clear HX QR hg6
       obtain ⟨vo, vn⟩ := v
       cases vo
       ·
        have HT2 : Hid (((L.take (q + 1)).filter fun x => pn x.s).length = cn + 1) := Lib.hid HT.out
        go_wp2
        go_roundw
        case rel => exact ⟨q + 1, by omega, by go_num, by rw [HT2.out]; go_num, gq6⟩
        case measure => simp [intOf]; omega
       ·
        have HT2 : Hid (((L.take (q + 1)).filter fun x => pn x.s).length = cn) := Lib.hid HT.out
        go_wp2
        go_roundw
        case rel => exact ⟨q + 1, by omega, by go_num, by rw [HT2.out], gq6⟩
        case measure => simp [intOf]; omega
      ·
       have hqe : q = L.length := by omega
       subst hqe
       have hT : ((L.take L.length).filter fun x => pn x.s).length = (L.filter fun x => pn x.s).length := by rw [List.take_length]
       rw [hT]
       generalize hcn : (L.filter fun x => pn x.s).length = cn at HSUM hT
       have hs := HSUM.out
       have hx20 : (X.length : Int) ≤ 20 := by omega
       have hy20 : (Y.length : Int) ≤ 20 := by omega
       have hc20 : (cn : Int) ≤ 20 := by omega
       have hsum : ((X.length : Int) + (Y.length : Int) + (cn : Int) != (L.length : Int)) = false := by
        rw [bne_eq_false_iff_eq]
        omega
       clear hT hcn hs
       have gF := Gr.trans HGW.out.1 hgq
       have hVF := HGW.out.2.1.gr hgq
       have hnF : Rd wr 1 (some ad) 4 (scellsM partN) := HGW.out.2.2.1.gr hgq
       go_wp2
       go_roundw
       case rel => exact ⟨m + 1, by omega, by go_num, gF, hVF, hnF⟩
       case measure => simp [intOf]; omega
    ·
     have hme : m = 4 := by omega
     subst hme
     clear hnr
     go_wp2_with fail
     refine (known23_any _).mono ?_; rintro e wd ⟨rfl, hgd⟩
     go_wp2
     go_ret
     exact ⟨rfl, Gr.trans hgr hgd⟩
end Go.Proofs.YtbdichmkgcngbaaGreat
