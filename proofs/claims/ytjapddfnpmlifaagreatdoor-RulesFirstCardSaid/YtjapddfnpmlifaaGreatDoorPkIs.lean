/- Is of the program: whether an expression is somewhere. -/
import Derived.Test.YtjapddfnpmlifaaGreatDoorRunPkFdP
namespace Go.Proofs.YtjapddfnpmlifaaGreatDoor
set_option linter.unusedVariables false
set_option linter.unusedSimpArgs false
open Go.RowKit Go.Maps

set_option maxRecDepth 100000 in
set_option maxHeartbeats 6400000 in
theorem pfind_any (G n cA : Nat) (A : Option Addr) (code : List In) (s : ByteArray) (hn : n = code.length) (hn2 : n ≤ 2000) (hG : G ≤ 1000) (hs : (s.size : Int) ≤ 4096) (hps : ∀ v ∈ code, v.ps.length ≤ 100000) (w : World) (hr : Ri w A code) :
  Calls Tryz.prog 37 #[.agg #[.int .i64 G, .slice A n cA], .string s, .int .i64 0] w (RetFp (isC code s.data.toList) w) := by
 obtain ⟨V, hV⟩ : ∃ V, V = (w.alloc (.cells #[.int .i64 G, .slice A n cA] 71)).alloc (.cells #[.int .i64 G, .slice A n cA, .string s] 117) := ⟨_, rfl⟩
 have gV : Gr w V := by rw [hV]; exact Gr.alloc (Gr.alloc (Gr.refl w) _) _
 have hzV : w.heap.size < V.heap.size := by rw [hV]; simp; omega
 have hwV : w.heap.size + 1 < V.heap.size := by rw [hV]; simp
 have b0 : V.cell? ⟨w.heap.size, 0, none⟩ = some (.int .i64 G) := by rw [hV]; go_simp
 have b1 : V.cell? ⟨w.heap.size, 1, none⟩ = some (.slice A n cA) := by rw [hV]; go_simp
 have k0 : V.cell? ⟨w.heap.size + 1, 0, none⟩ = some (.int .i64 G) := by rw [hV]; go_simp
 have k1 : V.cell? ⟨w.heap.size + 1, 1, none⟩ = some (.slice A n cA) := by rw [hV]; go_simp
 have k2 : V.cell? ⟨w.heap.size + 1, 2, none⟩ = some (.string s) := by rw [hV]; go_simp
 have gR : Gr V (V.alloc (.cells #[.int .i64 (-1)] 3)) := Gr.alloc (Gr.refl V) _
 have hrp := repeat_any V.heap.size (2 * G + 2) (-1) (V.alloc (.cells #[.int .i64 (-1)] 3)) (by omega) (by omega) (by go_simp)
 rw [show ((2 * G + 2 : Nat) : Int) = 2 * (G : Int) + 2 by omega] at hrp
 have HRP := Lib.hid hrp
 have HV := Lib.hid hV
 have HGV := Lib.hid (And.intro gV gR)
 have HR0 := Lib.hid hr
 have HPS := Lib.hid hps
 have hsl : Hid (s.data.toList.length = s.size) := Lib.hid (by simp)
 have HCC := Lib.hid (And.intro hn hsl.out)
 have hGi : (G : Int) ≤ 1000 := by omega
 have HKV := Lib.hid (And.intro k0 (And.intro k1 k2))
 have HwV := Lib.hid hwV
 clear hV gV gR hr hps hn hrp k0 k1 k2 hwV
 have hmm := @run_makeMap Tryz.prog
 go_enter Tryz.func37, Tryz.ntmps37
 go_upto_region 4 with (fail)
 rw [← HV.out]
 clear HV
 go_upto_region 5 with (go_at_call 54; refine HRP.out.mono ?_; rintro e wN ⟨nv, na, rfl, hpn, gN, hnn⟩; obtain ⟨cn, hnv, -⟩ := id hpn; subst hnv)
 have gVN : Gr V wN := HGV.out.2.trans gN
 have hwN : w.heap.size + 1 < wN.heap.size := Nat.lt_of_lt_of_le HwV.out gVN.size
 have KK : FdK G n cA A code s (w.heap.size + 1) wN (.slice (some ⟨na, 0, none⟩) (2 * G + 2) cn) := ⟨HCC.out.1, hn2, hs, HPS.out, hwN, (Below.cell gVN (p := ⟨w.heap.size + 1, 0, none⟩) HwV.out).trans HKV.out.1, (Below.cell gVN (p := ⟨w.heap.size + 1, 1, none⟩) HwV.out).trans HKV.out.2.1, (Below.cell gVN (p := ⟨w.heap.size + 1, 2, none⟩) HwV.out).trans HKV.out.2.2, HR0.out.gr (HGV.out.1.trans gVN), na, _, hpn⟩
 have HGN := Lib.hid (HGV.out.1.trans gVN)
 have HKK := Lib.hid KK
 have HF0 := Lib.hid (fd_start n code s.data.toList wN (Gr.refl wN))
 obtain ⟨wS, hwS⟩ : ∃ wS, wS = (wN.alloc (.map #[] 0)).alloc (.cells #[.slice none 0 0, .map (some wN.heap.size)] 123) := ⟨_, rfl⟩
 rw [← hwS] at HF0
 have HwS := Lib.hid hwS
 clear hwS gVN gN hpn hnn hzV b0 b1 HKV HwV HRP KK hwN
 go_upto_region 8 with (fail)
 rw [← HwS.out]
 have HF1 := Lib.hid (show FdS n code s.data.toList 0 wN (wN.heap.size + 1) wS false (.slice none 0 0) from .inl ⟨rfl, rfl, HF0.out⟩)
 clear HwS hmm HF0
 go_wp2
 generalize w.heap.size + 1 = hw at *
 go_loopw [10, 11, 12, 13] (fun l f o i wr => ∃ (p hl : Nat) (ob : Bool), p ≤ s.size + 1 ∧ i = .int .i64 p ∧ l = .pointer (some ⟨hl, 0, none⟩) ∧ o = .bool ob ∧ FdS n code s.data.toList p wN hl wr ob f) (fun _ _ _ i _ => s.size + 1 - (intOf i).toNat)
 case atStart => exact ⟨0, _, false, Nat.zero_le _, rfl, rfl, rfl, HF1.out⟩
 case round =>
  obtain ⟨p, hl, ob, hp1, rfl, rfl, rfl, hS⟩ := hrel
  clear HF1
  by_cases hpl : p ≤ s.size
  ·
   have hpi : (p : Int) ≤ (s.size : Int) := by omega
   rcases hS with ⟨rfl, rfl, hF⟩ | ⟨rfl, hF⟩
   ·
    have HAD := Lib.hid (hF.adds_call HKK.out hpl)
    clear hF
    go_upto_region 13 with (go_at_call 55; refine HAD.out.mono ?_; rintro e wX ⟨rfl, hA⟩)
    obtain ⟨A1, L1, c1, hL1, hlz, l0⟩ := hA.ways hn2
    have HST := Lib.hid (hA.step_call HKK.out hpl)
    clear hA HAD
    have hL1i : (L1 : Int) ≤ 2000 := by omega
    by_cases hL0 : L1 = 0
    ·
     have z0 : ((L1 : Int) == 0) = true := by rw [hL0]; rfl
     clear hL0
     go_upto_region 15 with (go_at_call 56; refine HST.out.mono ?_; rintro e w2 ⟨pv, met, hl2, rfl, hS2⟩)
     have HS2 := Lib.hid hS2
     clear hS2 HST
     cases met
     ·
      go_wp2
      go_roundw
      case rel => exact ⟨p + 1, hl2, _, by omega, by go_num, rfl, rfl, HS2.out⟩
      case measure => simp [intOf]; omega
     ·
      go_wp2
      go_roundw
      case rel => exact ⟨p + 1, hl2, _, by omega, by go_num, rfl, rfl, HS2.out⟩
      case measure => simp [intOf]; omega
    ·
     have z0 : ((L1 : Int) == 0) = false := beq_eq_false_iff_ne.2 (by omega)
     clear hL0
     go_upto_region 15 with (go_at_call 56; refine HST.out.mono ?_; rintro e w2 ⟨pv, met, hl2, rfl, hS2⟩)
     have HS2 := Lib.hid hS2
     clear hS2 HST
     cases met
     ·
      go_wp2
      go_roundw
      case rel => exact ⟨p + 1, hl2, _, by omega, by go_num, rfl, rfl, HS2.out⟩
      case measure => simp [intOf]; omega
     ·
      go_wp2
      go_roundw
      case rel => exact ⟨p + 1, hl2, _, by omega, by go_num, rfl, rfl, HS2.out⟩
      case measure => simp [intOf]; omega
   ·
    obtain ⟨A1, L1, c1, hL1, hlz, l0⟩ := hF.ways hn2
    have HST := Lib.hid (hF.step_call HKK.out hpl)
    have hL1i : (L1 : Int) ≤ 2000 := by omega
    by_cases hL0 : L1 = 0
    ·
     have z0 : ((L1 : Int) == 0) = true := by rw [hL0]; rfl
     have HC := Lib.hid hF.1
     obtain ⟨a, m, hP⟩ := hF.2.1
     have HCL := Lib.hid (hP.clone (Gr.refl wr))
     have HG := Lib.hid (HGN.out.trans hF.gr)
     clear hL0 hF hP HST
     go_wp2_with (go_at_call 57; refine HCL.out.mono ?_; rintro e w9 ⟨v9, rfl, g9⟩; have G9 := Lib.hid g9; clear g9)
     go_ret2
     exact RetFp.of HC.out (HG.out.trans G9.out)
    ·
     have z0 : ((L1 : Int) == 0) = false := beq_eq_false_iff_ne.2 (by omega)
     clear hL0 hF
     go_upto_region 15 with (go_at_call 56; refine HST.out.mono ?_; rintro e w2 ⟨pv, met, hl2, rfl, hS2⟩)
     have HS2 := Lib.hid hS2
     clear hS2 HST
     cases met
     ·
      go_wp2
      go_roundw
      case rel => exact ⟨p + 1, hl2, _, by omega, by go_num, rfl, rfl, HS2.out⟩
      case measure => simp [intOf]; omega
     ·
      go_wp2
      go_roundw
      case rel => exact ⟨p + 1, hl2, _, by omega, by go_num, rfl, rfl, HS2.out⟩
      case measure => simp [intOf]; omega
  ·
   have hgt : ¬ (p : Int) ≤ (s.size : Int) := by omega
   have hpe : p = s.size + 1 := by omega
   rcases hS with ⟨rfl, rfl, hF⟩ | ⟨rfl, hF⟩
   ·
    have HC : Hid (isC code s.data.toList = false) := Lib.hid (by
     obtain ⟨B, b0, v, W, Wn, S, nB, hL, hN, -⟩ := hF
     refine isC_none ?_
     rw [HCC.out.2, ← hpe]
     exact hN)
    have HCL := Lib.hid (clone_nil wr)
    have HG := Lib.hid (HGN.out.trans hF.gr)
    clear hF hpe
    go_wp2_with (go_at_call 57; refine HCL.out.mono ?_; rintro e w9 ⟨v9, rfl, g9⟩; have G9 := Lib.hid g9; clear g9)
    go_ret2
    exact RetFp.of HC.out (HG.out.trans G9.out)
   ·
    have HC := Lib.hid hF.1
    obtain ⟨a, m, hP⟩ := hF.2.1
    have HCL := Lib.hid (hP.clone (Gr.refl wr))
    have HG := Lib.hid (HGN.out.trans hF.gr)
    clear hF hpe hP
    go_wp2_with (go_at_call 57; refine HCL.out.mono ?_; rintro e w9 ⟨v9, rfl, g9⟩; have G9 := Lib.hid g9; clear g9)
    go_ret2
    exact RetFp.of HC.out (HG.out.trans G9.out)
set_option maxRecDepth 100000 in
set_option maxHeartbeats 6400000 in
theorem pis_any (G n cA : Nat) (A : Option Addr) (code : List In) (s : ByteArray) (hn : n = code.length) (hn2 : n ≤ 2000) (hG : G ≤ 1000) (hs : (s.size : Int) ≤ 4096) (hps : ∀ v ∈ code, v.ps.length ≤ 100000) (w : World) (hr : Ri w A code) :
  Calls Tryz.prog 22 #[.agg #[.int .i64 G, .slice A n cA], .string s] w fun e w' => e = .returned (.bool (isC code s.data.toList)) ∧ Gr w w' := by
 have HF := Lib.hid (fun W hW => pfind_any G n cA A code s hn hn2 hG hs hps W hW)
 have gV : Gr w (w.alloc (.cells #[.int .i64 G, .slice A n cA] 71)) := Gr.alloc (Gr.refl w) _
 have HR := Lib.hid (hr.gr gV)
 have GV := Lib.hid gV
 clear hr hn gV hps
 go_enter Tryz.func22, Tryz.ntmps22
 go_wp2_with (go_at_call 37; refine (HF.out _ HR.out).mono ?_; rintro e w2 ⟨v2, rfl, g2⟩; have G2 := Lib.hid g2; clear g2)
 go_ret
 exact ⟨rfl, GV.out.trans G2.out⟩
end Go.Proofs.YtjapddfnpmlifaaGreatDoor
