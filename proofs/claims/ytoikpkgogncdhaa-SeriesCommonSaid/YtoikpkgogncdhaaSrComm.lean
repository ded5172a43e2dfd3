/- The law SeriesCommon of chapter 18, walked over the contracts. -/
import Derived.Test.YtoikpkgogncdhaaSrJLaw
namespace Go.Proofs.Ytoikpkgogncdhaa
set_option linter.unusedVariables false
set_option linter.unusedSimpArgs false
open Go.RowKit

set_option maxRecDepth 100000 in
set_option maxHeartbeats 9600000 in
theorem law_SeriesCommon (A : Option Addr) (c : Nat) (L : List Sq) (w : World) (hcap : ∀ x ∈ L, x.s.vals.length ≤ x.c) (hr : Rl w A L) (hv : Lie w L) :
    Calls Try.prog 9 #[.slice A L.length c] w fun e w' => e = .returned (.bool true) ∧ Gr w w' := by
  have HH := Lib.hid (heavy_any A c L w hr)
  go_enter Try.func9, Try.ntmps9
  go_wp2_with fail
  refine HH.out.mono ?_
  rintro e w1 ⟨⟨b, rfl, hb⟩, hg1⟩
  clear HH
  cases b
  case true =>
    go_wp2
    go_ret
    exact ⟨rfl, hg1⟩
  obtain ⟨hl20, hLt⟩ := hb rfl
  have hle : ∀ x ∈ L, x.s.vals.length ≤ 1000000 := fun x hx => by have := (hLt x hx).1; omega
  have hl : (L.length : Int) ≤ 1000 := by omega
  clear hLt hb hl20
  have hSl : ∀ s ∈ L.map Sq.s, s.vals.length ≤ 1000000 := fun s hs => by obtain ⟨x, hx, rfl⟩ := List.mem_map.1 hs; exact hle x hx
  have HJL := Lib.hid (joinS_len hSl)
  have HJC : Hid ((joinS (L.map Sq.s)).length ≤ L.length) := Lib.hid (by have := joinS_count (L.map Sq.s); simpa using this)
  have QR := fun w hr hv => rjoin_any A c L w hl hle hr hv
  have QP := fun w hr hv => join_any A c L w hl hle hcap hr hv
  clear hSl hle
  obtain ⟨S, hS⟩ : ∃ S, L.map Sq.s = S := ⟨_, rfl⟩
  have HS := Lib.hid hS
  rw [hS] at QR QP
  clear hS HJL HJC hcap
  go_wp2_with fail
  refine (QR _ (hr.gr hg1) (hv.gr hg1)).mono ?_
  rintro e w2 ⟨A1, M1, c1, rfl, hM1, hRM1, hLM1, hg2⟩
  have g2 := Gr.trans hg1 hg2
  clear QR hM1 hRM1 hLM1 hg2 hg1
  go_wp2_with fail
  refine (QP _ (hr.gr g2) (hv.gr g2)).mono ?_
  rintro e w3 ⟨A3, M, c3, rfl, hM, hRM, hLM, hg3⟩
  have g3 := Gr.trans g2 hg3
  clear QP hg3 g2
  by_cases h0 : errJ S = 0
  case neg =>
    obtain ⟨E, hE⟩ : ∃ E, errJ S = E := ⟨_, rfl⟩
    rw [hE] at h0 ⊢
    have hEb : (E == 0) = false := beq_eq_false_iff_ne.2 h0
    have hEb' : (E != 0) = true := by simp [bne, hEb]
    clear hE hM hRM hLM h0
    go_wp2_with fail
    refine (known18_any _).mono ?_; rintro e w5 ⟨rfl, hg5⟩
    go_wp2
    go_ret
    exact ⟨rfl, Gr.trans g3 hg5⟩
  rw [h0]
  have hMl : M.length = L.length := by
    have := congrArg List.length hM
    rw [← HS.out] at this h0
    simp [joinS, h0] at this
    exact this
  have HH0 := Lib.hid h0
  have HMk : Hid (∀ k (h : k < M.length) (h2 : k < L.length), M[k].s = fitS L[k].s (startJ S) (stepS S : Int) (countJ S) ∧ L[k].s ∈ S) := Lib.hid (fun k h h2 => by
    have e1 : M.map Sq.s = (L.map Sq.s).map fun s => fitS s (startJ S) (stepS S : Int) (countJ S) := by
      rw [hM, HS.out]; unfold joinS; rw [if_pos HH0.out]
    have e2 : (M.map Sq.s)[k]? = ((L.map Sq.s).map fun s => fitS s (startJ S) (stepS S : Int) (countJ S))[k]? := by rw [e1]
    refine ⟨by simpa [h, h2] using e2, ?_⟩
    rw [← HS.out]
    exact List.mem_map_of_mem (List.getElem_mem h2))
  have HL : Hid (∀ k, k < M.length → k < L.length) := Lib.hid (fun k h => by rw [← hMl]; exact h)
  have hMI : (M.length : Int) ≤ 1000 := by omega
  have HML := Lib.hid hMl
  have hlenb : ((M.length : Int) == (L.length : Int)) = true := beq_iff_eq.2 (by omega)
  have hlenb' : (M.length == L.length) = true := beq_iff_eq.2 hMl
  clear hM h0 hMl
  go_wp2
  go_loopw [7] (fun i wr => ∃ k : Nat, k ≤ M.length ∧ i = .int .i64 k ∧ Gr w3 wr) (fun i _ => M.length - (intOf i).toNat)
  case atStart => exact ⟨0, Nat.zero_le _, rfl, Gr.refl _⟩
  case round =>
    obtain ⟨k, hk, rfl, hgr⟩ := hrel
    have gwr := Gr.trans g3 hgr
    by_cases hlt : k < M.length
    · have hlt' := HL.out k hlt
      obtain ⟨adx, rfl, hbx, hx0, hx1, hx2, hx3, hx4⟩ := (hRM.gr hgr).at hlt
      obtain ⟨adz, ez, hbz, -, hz1, hz2, hz3, -⟩ := (hRM.gr hgr).at (k := 0) (by omega)
      injection ez with ez
      subst ez
      rw [show adx.add (0 * 5) = adx by simp [Addr.add]] at hz1 hz2 hz3
      obtain ⟨ady, rfl, hby, hy0, hy1, hy2, hy3, hy4⟩ := (hr.gr gwr).at hlt'
      have hvx := hLM _ (List.getElem_mem hlt)
      have hvy := hv _ (List.getElem_mem hlt')
      obtain ⟨ek, mk⟩ := HMk.out k hlt hlt'
      obtain ⟨e0, m0⟩ := HMk.out 0 (by omega) (by omega)
      have hne : S ≠ [] := fun h => by rw [h] at mk; cases mk
      obtain ⟨p1, -, -, -, c0, -, hall⟩ := joined HH0.out hne
      obtain ⟨hox, fk, hmod, hst, hen⟩ := hall _ mk
      obtain ⟨_, f0, _, _, _⟩ := hall _ m0
      rw [← ek] at hen
      have ek' := ek.trans fk
      have e0' := e0.trans f0
      have q1' := congrArg Sr.start ek'; have q2' := congrArg Sr.step ek'; have q3' := congrArg Sr.name ek'; have q4' := congrArg (fun s => s.vals.length) ek'
      have r1' := congrArg Sr.start e0'; have r2' := congrArg Sr.step e0'; have r4' := congrArg (fun s => s.vals.length) e0'
      simp only [fitL_len] at q1' q2' q3' q4' r1' r2' r4'
      have QX := Lib.hid (fun (W : World) (hW : Gr wr W) => rsend_any M[k].s M[k].A M[k].c W ((hvx.gr hgr).gr hW))
      have QY := Lib.hid (fun (W : World) (hW : Gr wr W) => rsend_any (L[k]'hlt').s (L[k]'hlt').A (L[k]'hlt').c W ((hvy.gr gwr).gr hW))
      have hys := hox.p0
      have htm : Int.tmod (stepS S : Int) (L[k]'hlt').s.step = 0 := by rw [Int.tmod_eq_emod_of_nonneg (by omega)]; exact hmod
      clear hmod hox hall ek e0 ek' e0' fk f0 mk m0 hne hvx hvy c0
      generalize startJ S = sj at *
      generalize (stepS S : Int) = st at *
      generalize (countJ S).toNat = nn at *
      obtain ⟨ex, hex⟩ : ∃ ex, endS M[k].s = ex := ⟨_, rfl⟩
      obtain ⟨ey, hey⟩ : ∃ ey, endS (L[k]'hlt').s = ey := ⟨_, rfl⟩
      rw [hex, hey] at hen
      rw [q1', q2', q3', q4', hex] at QX
      rw [hey] at QY
      rw [q1'] at hx1
      rw [q2'] at hx2
      rw [q3'] at hx0
      rw [q4'] at hx3
      rw [r1'] at hz1
      rw [r2'] at hz2
      rw [r4'] at hz3
      clear q1' q2' q3' q4' r1' r2' r4' hex hey
      obtain ⟨x, hxx⟩ : ∃ x, M[k] = x := ⟨_, rfl⟩
      obtain ⟨z, hzz⟩ : ∃ z, M[0]'(by omega) = z := ⟨_, rfl⟩
      obtain ⟨y, hyy⟩ : ∃ y, L[k]'hlt' = y := ⟨_, rfl⟩
      rw [hxx] at hx3 hx4 QX
      rw [hzz] at hz3
      rw [hyy] at hx0 hy0 hy1 hy2 hy3 hy4 QX QY hys htm hst
      clear hxx hzz hyy
      have hyb : (y.s.step == 0) = false := beq_eq_false_iff_ne.2 (by omega)
      have hyn : y.s.step ≠ 0 := by omega
      have hM0 : 0 < M.length := by omega
      have hd1 : decide (y.s.start < sj) = false := decide_eq_false (by omega)
      have hd2 : decide (ex < ey) = false := decide_eq_false (by omega)
      have HF : Hid (∀ W, Gr wr W → W.cell? (adx.add (k * 5)) = some (.string y.s.name) ∧ W.cell? ⟨(adx.add (k * 5)).block, (adx.add (k * 5)).off + 1, none⟩ = some (.int .i64 sj) ∧ W.cell? ⟨(adx.add (k * 5)).block, (adx.add (k * 5)).off + 2, none⟩ = some (.int .i64 st) ∧ W.cell? ⟨(adx.add (k * 5)).block, (adx.add (k * 5)).off + 3, none⟩ = some (.slice x.A nn x.c) ∧ W.cell? ⟨(adx.add (k * 5)).block, (adx.add (k * 5)).off + 4, none⟩ = some (.int .i64 x.s.cons) ∧ W.cell? (ady.add (k * 5)) = some (.string y.s.name) ∧ W.cell? ⟨(ady.add (k * 5)).block, (ady.add (k * 5)).off + 1, none⟩ = some (.int .i64 y.s.start) ∧ W.cell? ⟨(ady.add (k * 5)).block, (ady.add (k * 5)).off + 2, none⟩ = some (.int .i64 y.s.step) ∧ W.cell? ⟨(ady.add (k * 5)).block, (ady.add (k * 5)).off + 3, none⟩ = some (.slice y.A y.s.vals.length y.c) ∧ W.cell? ⟨(ady.add (k * 5)).block, (ady.add (k * 5)).off + 4, none⟩ = some (.int .i64 y.s.cons) ∧ W.cell? ⟨adx.block, adx.off + 1, none⟩ = some (.int .i64 sj) ∧ W.cell? ⟨adx.block, adx.off + 2, none⟩ = some (.int .i64 st) ∧ W.cell? ⟨adx.block, adx.off + 3, none⟩ = some (.slice z.A nn z.c)) := Lib.hid (fun W hW => ⟨(hW.cell (p := adx.add (k * 5)) (by rw [add_blk]; exact hbx)).trans hx0, (hW.cell (p := ⟨(adx.add (k * 5)).block, (adx.add (k * 5)).off + 1, none⟩) (by show (adx.add (k * 5)).block < _; rw [add_blk]; exact hbx)).trans hx1, (hW.cell (p := ⟨(adx.add (k * 5)).block, (adx.add (k * 5)).off + 2, none⟩) (by show (adx.add (k * 5)).block < _; rw [add_blk]; exact hbx)).trans hx2, (hW.cell (p := ⟨(adx.add (k * 5)).block, (adx.add (k * 5)).off + 3, none⟩) (by show (adx.add (k * 5)).block < _; rw [add_blk]; exact hbx)).trans hx3, (hW.cell (p := ⟨(adx.add (k * 5)).block, (adx.add (k * 5)).off + 4, none⟩) (by show (adx.add (k * 5)).block < _; rw [add_blk]; exact hbx)).trans hx4, (hW.cell (p := ady.add (k * 5)) (by rw [add_blk]; exact hby)).trans hy0, (hW.cell (p := ⟨(ady.add (k * 5)).block, (ady.add (k * 5)).off + 1, none⟩) (by show (ady.add (k * 5)).block < _; rw [add_blk]; exact hby)).trans hy1, (hW.cell (p := ⟨(ady.add (k * 5)).block, (ady.add (k * 5)).off + 2, none⟩) (by show (ady.add (k * 5)).block < _; rw [add_blk]; exact hby)).trans hy2, (hW.cell (p := ⟨(ady.add (k * 5)).block, (ady.add (k * 5)).off + 3, none⟩) (by show (ady.add (k * 5)).block < _; rw [add_blk]; exact hby)).trans hy3, (hW.cell (p := ⟨(ady.add (k * 5)).block, (ady.add (k * 5)).off + 4, none⟩) (by show (ady.add (k * 5)).block < _; rw [add_blk]; exact hby)).trans hy4, (hW.cell (p := ⟨adx.block, adx.off + 1, none⟩) hbx).trans hz1, (hW.cell (p := ⟨adx.block, adx.off + 2, none⟩) hbx).trans hz2, (hW.cell (p := ⟨adx.block, adx.off + 3, none⟩) hbx).trans hz3⟩)
      clear hx0 hx1 hx2 hx3 hx4 hy0 hy1 hy2 hy3 hy4 hz1 hz2 hz3
      go_wp2
      refine region_Q (by kernel_rfl) (by kernel_rfl) ?_
      refine q_val (v := ?qv1001) (by rfl) (fun W hW => ?qh1001) ?qr1001
      case qh1001 =>
          go_simp
          rfl
      simp only [Act.put, List.setIfInBounds_toArray, List.set_cons_zero, List.set_cons_succ]
      refine q_val (v := ?qv1002) (by rfl) (fun W hW => ?qh1002) ?qr1002
      case qh1002 =>
          go_simp
          rfl
      simp only [Act.put, List.setIfInBounds_toArray, List.set_cons_zero, List.set_cons_succ]
      refine q_val (v := ?qv1003) (by rfl) (fun W hW => ?qh1003) ?qr1003
      case qh1003 =>
          go_simp
          rfl
      simp only [Act.put, List.setIfInBounds_toArray, List.set_cons_zero, List.set_cons_succ]
      refine q_val (v := ?qv1004) (by rfl) (fun W hW => ?qh1004) ?qr1004
      case qh1004 =>
          go_simp
          rfl
      simp only [Act.put, List.setIfInBounds_toArray, List.set_cons_zero, List.set_cons_succ]
      refine q_val (v := ?qv1005) (by rfl) (fun W hW => ?qh1005) ?qr1005
      case qh1005 =>
          obtain ⟨y0, y1, y2, y3, y4, z0, z1, z2, z3, z4, o1, o2, o3⟩ := HF.out W hW
          go_simp
          rfl
      simp only [Act.put, List.setIfInBounds_toArray, List.set_cons_zero, List.set_cons_succ]
      refine q_val (v := ?qv1006) (by rfl) (fun W hW => ?qh1006) ?qr1006
      case qh1006 =>
          go_simp
          rfl
      simp only [Act.put, List.setIfInBounds_toArray, List.set_cons_zero, List.set_cons_succ]
      refine q_val (v := ?qv1007) (by rfl) (fun W hW => ?qh1007) ?qr1007
      case qh1007 =>
          go_simp
          rfl
      simp only [Act.put, List.setIfInBounds_toArray, List.set_cons_zero, List.set_cons_succ]
      refine q_val (v := ?qv1008) (by rfl) (fun W hW => ?qh1008) ?qr1008
      case qh1008 =>
          go_simp
          rfl
      simp only [Act.put, List.setIfInBounds_toArray, List.set_cons_zero, List.set_cons_succ]
      refine q_val (v := ?qv1009) (by rfl) (fun W hW => ?qh1009) ?qr1009
      case qh1009 =>
          obtain ⟨y0, y1, y2, y3, y4, z0, z1, z2, z3, z4, o1, o2, o3⟩ := HF.out W hW
          go_simp
          rfl
      simp only [Act.put, List.setIfInBounds_toArray, List.set_cons_zero, List.set_cons_succ]
      refine q_val (v := ?qv1010) (by rfl) (fun W hW => ?qh1010) ?qr1010
      case qh1010 =>
          go_simp
          rfl
      simp only [Act.put, List.setIfInBounds_toArray, List.set_cons_zero, List.set_cons_succ]
      refine q_val (v := ?qv1011) (by rfl) (fun W hW => ?qh1011) ?qr1011
      case qh1011 =>
          go_simp
          rfl
      simp only [Act.put, List.setIfInBounds_toArray, List.set_cons_zero, List.set_cons_succ]
      refine q_val (v := ?qv1012) (by rfl) (fun W hW => ?qh1012) ?qr1012
      case qh1012 =>
          go_simp
          rfl
      simp only [Act.put, List.setIfInBounds_toArray, List.set_cons_zero, List.set_cons_succ]
      refine q_val (v := ?qv1013) (by rfl) (fun W hW => ?qh1013) ?qr1013
      case qh1013 =>
          go_simp
          rfl
      simp only [Act.put, List.setIfInBounds_toArray, List.set_cons_zero, List.set_cons_succ]
      refine q_val (v := ?qv1014) (by rfl) (fun W hW => ?qh1014) ?qr1014
      case qh1014 =>
          go_simp
          rfl
      simp only [Act.put, List.setIfInBounds_toArray, List.set_cons_zero, List.set_cons_succ]
      refine q_val (v := ?qv1015) (by rfl) (fun W hW => ?qh1015) ?qr1015
      case qh1015 =>
          go_simp
          rfl
      simp only [Act.put, List.setIfInBounds_toArray, List.set_cons_zero, List.set_cons_succ]
      refine q_val (v := ?qv1016) (by rfl) (fun W hW => ?qh1016) ?qr1016
      case qh1016 =>
          obtain ⟨y0, y1, y2, y3, y4, z0, z1, z2, z3, z4, o1, o2, o3⟩ := HF.out W hW
          go_simp
          rfl
      simp only [Act.put, List.setIfInBounds_toArray, List.set_cons_zero, List.set_cons_succ]
      refine q_val (v := ?qv1017) (by rfl) (fun W hW => ?qh1017) ?qr1017
      case qh1017 =>
          go_simp
          rfl
      simp only [Act.put, List.setIfInBounds_toArray, List.set_cons_zero, List.set_cons_succ]
      refine q_val (v := ?qv1018) (by rfl) (fun W hW => ?qh1018) ?qr1018
      case qh1018 =>
          go_simp
          rfl
      simp only [Act.put, List.setIfInBounds_toArray, List.set_cons_zero, List.set_cons_succ]
      refine q_val (v := ?qv1019) (by rfl) (fun W hW => ?qh1019) ?qr1019
      case qh1019 =>
          go_simp
          rfl
      simp only [Act.put, List.setIfInBounds_toArray, List.set_cons_zero, List.set_cons_succ]
      refine q_val (v := ?qv1020) (by rfl) (fun W hW => ?qh1020) ?qr1020
      case qh1020 =>
          obtain ⟨y0, y1, y2, y3, y4, z0, z1, z2, z3, z4, o1, o2, o3⟩ := HF.out W hW
          go_simp
          rfl
      simp only [Act.put, List.setIfInBounds_toArray, List.set_cons_zero, List.set_cons_succ]
      refine q_val (v := ?qv1021) (by rfl) (fun W hW => ?qh1021) ?qr1021
      case qh1021 =>
          go_simp
          rfl
      simp only [Act.put, List.setIfInBounds_toArray, List.set_cons_zero, List.set_cons_succ]
      refine q_val (v := ?qv1022) (by rfl) (fun W hW => ?qh1022) ?qr1022
      case qh1022 =>
          go_simp
          rfl
      simp only [Act.put, List.setIfInBounds_toArray, List.set_cons_zero, List.set_cons_succ]
      refine q_val (v := ?qv1023) (by rfl) (fun W hW => ?qh1023) ?qr1023
      case qh1023 =>
          go_simp
          rfl
      simp only [Act.put, List.setIfInBounds_toArray, List.set_cons_zero, List.set_cons_succ]
      refine q_val (v := ?qv1024) (by rfl) (fun W hW => ?qh1024) ?qr1024
      case qh1024 =>
          go_simp
          rfl
      simp only [Act.put, List.setIfInBounds_toArray, List.set_cons_zero, List.set_cons_succ]
      refine q_val (v := ?qv1025) (by rfl) (fun W hW => ?qh1025) ?qr1025
      case qh1025 =>
          go_simp
          rfl
      simp only [Act.put, List.setIfInBounds_toArray, List.set_cons_zero, List.set_cons_succ]
      refine q_val (v := ?qv1026) (by rfl) (fun W hW => ?qh1026) ?qr1026
      case qh1026 =>
          go_simp
          rfl
      simp only [Act.put, List.setIfInBounds_toArray, List.set_cons_zero, List.set_cons_succ]
      refine q_val (v := ?qv1027) (by rfl) (fun W hW => ?qh1027) ?qr1027
      case qh1027 =>
          go_simp
          rfl
      simp only [Act.put, List.setIfInBounds_toArray, List.set_cons_zero, List.set_cons_succ]
      refine q_val (v := ?qv1028) (by rfl) (fun W hW => ?qh1028) ?qr1028
      case qh1028 =>
          obtain ⟨y0, y1, y2, y3, y4, z0, z1, z2, z3, z4, o1, o2, o3⟩ := HF.out W hW
          go_simp
          rfl
      simp only [Act.put, List.setIfInBounds_toArray, List.set_cons_zero, List.set_cons_succ]
      refine q_val (v := ?qv1029) (by rfl) (fun W hW => ?qh1029) ?qr1029
      case qh1029 =>
          go_simp
          rfl
      simp only [Act.put, List.setIfInBounds_toArray, List.set_cons_zero, List.set_cons_succ]
      refine q_val (v := ?qv1030) (by rfl) (fun W hW => ?qh1030) ?qr1030
      case qh1030 =>
          go_simp
          rfl
      simp only [Act.put, List.setIfInBounds_toArray, List.set_cons_zero, List.set_cons_succ]
      refine q_val (v := ?qv1031) (by rfl) (fun W hW => ?qh1031) ?qr1031
      case qh1031 =>
          go_simp
          rfl
      simp only [Act.put, List.setIfInBounds_toArray, List.set_cons_zero, List.set_cons_succ]
      refine q_val (v := ?qv1032) (by rfl) (fun W hW => ?qh1032) ?qr1032
      case qh1032 =>
          go_simp
          rfl
      simp only [Act.put, List.setIfInBounds_toArray, List.set_cons_zero, List.set_cons_succ]
      refine q_val (v := ?qv1033) (by rfl) (fun W hW => ?qh1033) ?qr1033
      case qh1033 =>
          obtain ⟨y0, y1, y2, y3, y4, z0, z1, z2, z3, z4, o1, o2, o3⟩ := HF.out W hW
          go_simp
          rfl
      simp only [Act.put, List.setIfInBounds_toArray, List.set_cons_zero, List.set_cons_succ]
      refine q_val (v := ?qv1034) (by rfl) (fun W hW => ?qh1034) ?qr1034
      case qh1034 =>
          go_simp
          rfl
      simp only [Act.put, List.setIfInBounds_toArray, List.set_cons_zero, List.set_cons_succ]
      refine q_val (v := ?qv1035) (by rfl) (fun W hW => ?qh1035) ?qr1035
      case qh1035 =>
          go_simp
          rfl
      simp only [Act.put, List.setIfInBounds_toArray, List.set_cons_zero, List.set_cons_succ]
      refine q_val (v := ?qv1036) (by rfl) (fun W hW => ?qh1036) ?qr1036
      case qh1036 =>
          go_simp
          rfl
      simp only [Act.put, List.setIfInBounds_toArray, List.set_cons_zero, List.set_cons_succ]
      refine q_val (v := ?qv1037) (by rfl) (fun W hW => ?qh1037) ?qr1037
      case qh1037 =>
          go_simp
          rfl
      simp only [Act.put, List.setIfInBounds_toArray, List.set_cons_zero, List.set_cons_succ]
      refine q_val (v := ?qv1038) (by rfl) (fun W hW => ?qh1038) ?qr1038
      case qh1038 =>
          go_simp
          rfl
      simp only [Act.put, List.setIfInBounds_toArray, List.set_cons_zero, List.set_cons_succ]
      refine q_val (v := ?qv1039) (by rfl) (fun W hW => ?qh1039) ?qr1039
      case qh1039 =>
          go_simp
          rfl
      simp only [Act.put, List.setIfInBounds_toArray, List.set_cons_zero, List.set_cons_succ]
      refine q_val (v := ?qv1040) (by rfl) (fun W hW => ?qh1040) ?qr1040
      case qh1040 =>
          go_simp
          rfl
      simp only [Act.put, List.setIfInBounds_toArray, List.set_cons_zero, List.set_cons_succ]
      refine q_val (v := ?qv1041) (by rfl) (fun W hW => ?qh1041) ?qr1041
      case qh1041 =>
          go_simp
          rfl
      simp only [Act.put, List.setIfInBounds_toArray, List.set_cons_zero, List.set_cons_succ]
      refine q_val (v := ?qv1042) (by rfl) (fun W hW => ?qh1042) ?qr1042
      case qh1042 =>
          obtain ⟨y0, y1, y2, y3, y4, z0, z1, z2, z3, z4, o1, o2, o3⟩ := HF.out W hW
          go_simp
          rfl
      simp only [Act.put, List.setIfInBounds_toArray, List.set_cons_zero, List.set_cons_succ]
      refine q_val (v := ?qv1043) (by rfl) (fun W hW => ?qh1043) ?qr1043
      case qh1043 =>
          go_simp
          rfl
      simp only [Act.put, List.setIfInBounds_toArray, List.set_cons_zero, List.set_cons_succ]
      refine q_val (v := ?qv1044) (by rfl) (fun W hW => ?qh1044) ?qr1044
      case qh1044 =>
          go_simp
          rfl
      simp only [Act.put, List.setIfInBounds_toArray, List.set_cons_zero, List.set_cons_succ]
      refine q_val (v := ?qv1045) (by rfl) (fun W hW => ?qh1045) ?qr1045
      case qh1045 =>
          go_simp
          rfl
      simp only [Act.put, List.setIfInBounds_toArray, List.set_cons_zero, List.set_cons_succ]
      refine q_val (v := ?qv1046) (by rfl) (fun W hW => ?qh1046) ?qr1046
      case qh1046 =>
          go_simp
          rfl
      simp only [Act.put, List.setIfInBounds_toArray, List.set_cons_zero, List.set_cons_succ]
      refine q_val (v := ?qv1047) (by rfl) (fun W hW => ?qh1047) ?qr1047
      case qh1047 =>
          obtain ⟨y0, y1, y2, y3, y4, z0, z1, z2, z3, z4, o1, o2, o3⟩ := HF.out W hW
          go_simp
          rfl
      simp only [Act.put, List.setIfInBounds_toArray, List.set_cons_zero, List.set_cons_succ]
      refine q_val (v := ?qv1048) (by rfl) (fun W hW => ?qh1048) ?qr1048
      case qh1048 =>
          go_simp
          rfl
      simp only [Act.put, List.setIfInBounds_toArray, List.set_cons_zero, List.set_cons_succ]
      refine q_val (v := ?qv1049) (by rfl) (fun W hW => ?qh1049) ?qr1049
      case qh1049 =>
          go_simp
          rfl
      simp only [Act.put, List.setIfInBounds_toArray, List.set_cons_zero, List.set_cons_succ]
      refine q_val (v := ?qv1050) (by rfl) (fun W hW => ?qh1050) ?qr1050
      case qh1050 =>
          go_simp
          rfl
      simp only [Act.put, List.setIfInBounds_toArray, List.set_cons_zero, List.set_cons_succ]
      refine q_val (v := ?qv1051) (by rfl) (fun W hW => ?qh1051) ?qr1051
      case qh1051 =>
          go_simp
          rfl
      simp only [Act.put, List.setIfInBounds_toArray, List.set_cons_zero, List.set_cons_succ]
      refine q_val (v := ?qv1052) (by rfl) (fun W hW => ?qh1052) ?qr1052
      case qh1052 =>
          go_simp
          rfl
      simp only [Act.put, List.setIfInBounds_toArray, List.set_cons_zero, List.set_cons_succ]
      refine q_val (v := ?qv1053) (by rfl) (fun W hW => ?qh1053) ?qr1053
      case qh1053 =>
          go_simp
          rfl
      simp only [Act.put, List.setIfInBounds_toArray, List.set_cons_zero, List.set_cons_succ]
      refine q_val (v := ?qv1054) (by rfl) (fun W hW => ?qh1054) ?qr1054
      case qh1054 =>
          go_simp
          rfl
      simp only [Act.put, List.setIfInBounds_toArray, List.set_cons_zero, List.set_cons_succ]
      refine q_val (v := ?qv1055) (by rfl) (fun W hW => ?qh1055) ?qr1055
      case qh1055 =>
          go_simp
          rfl
      simp only [Act.put, List.setIfInBounds_toArray, List.set_cons_zero, List.set_cons_succ]
      refine q_val (v := ?qv1056) (by rfl) (fun W hW => ?qh1056) ?qr1056
      case qh1056 =>
          obtain ⟨y0, y1, y2, y3, y4, z0, z1, z2, z3, z4, o1, o2, o3⟩ := HF.out W hW
          go_simp
          rfl
      simp only [Act.put, List.setIfInBounds_toArray, List.set_cons_zero, List.set_cons_succ]
      refine q_val (v := ?qv1057) (by rfl) (fun W hW => ?qh1057) ?qr1057
      case qh1057 =>
          go_simp
          rfl
      simp only [Act.put, List.setIfInBounds_toArray, List.set_cons_zero, List.set_cons_succ]
      refine q_val (v := ?qv1058) (by rfl) (fun W hW => ?qh1058) ?qr1058
      case qh1058 =>
          go_simp
          rfl
      simp only [Act.put, List.setIfInBounds_toArray, List.set_cons_zero, List.set_cons_succ]
      refine q_val (v := ?qv1059) (by rfl) (fun W hW => ?qh1059) ?qr1059
      case qh1059 =>
          go_simp
          rfl
      simp only [Act.put, List.setIfInBounds_toArray, List.set_cons_zero, List.set_cons_succ]
      refine q_val (v := ?qv1060) (by rfl) (fun W hW => ?qh1060) ?qr1060
      case qh1060 =>
          go_simp
          rfl
      simp only [Act.put, List.setIfInBounds_toArray, List.set_cons_zero, List.set_cons_succ]
      refine q_val (v := ?qv1061) (by rfl) (fun W hW => ?qh1061) ?qr1061
      case qh1061 =>
          obtain ⟨y0, y1, y2, y3, y4, z0, z1, z2, z3, z4, o1, o2, o3⟩ := HF.out W hW
          go_simp
          rfl
      simp only [Act.put, List.setIfInBounds_toArray, List.set_cons_zero, List.set_cons_succ]
      refine q_val (v := ?qv1062) (by rfl) (fun W hW => ?qh1062) ?qr1062
      case qh1062 =>
          go_simp
          rfl
      simp only [Act.put, List.setIfInBounds_toArray, List.set_cons_zero, List.set_cons_succ]
      refine q_val (v := ?qv1063) (by rfl) (fun W hW => ?qh1063) ?qr1063
      case qh1063 =>
          go_simp
          rfl
      simp only [Act.put, List.setIfInBounds_toArray, List.set_cons_zero, List.set_cons_succ]
      refine q_val (v := ?qv1064) (by rfl) (fun W hW => ?qh1064) ?qr1064
      case qh1064 =>
          go_simp
          rfl
      simp only [Act.put, List.setIfInBounds_toArray, List.set_cons_zero, List.set_cons_succ]
      refine q_val (v := ?qv1065) (by rfl) (fun W hW => ?qh1065) ?qr1065
      case qh1065 =>
          go_simp
          rfl
      simp only [Act.put, List.setIfInBounds_toArray, List.set_cons_zero, List.set_cons_succ]
      refine q_val (v := ?qv1066) (by rfl) (fun W hW => ?qh1066) ?qr1066
      case qh1066 =>
          go_simp
          rfl
      simp only [Act.put, List.setIfInBounds_toArray, List.set_cons_zero, List.set_cons_succ]
      refine q_val (v := ?qv1067) (by rfl) (fun W hW => ?qh1067) ?qr1067
      case qh1067 =>
          go_simp
          rfl
      simp only [Act.put, List.setIfInBounds_toArray, List.set_cons_zero, List.set_cons_succ]
      refine q_val (v := ?qv1068) (by rfl) (fun W hW => ?qh1068) ?qr1068
      case qh1068 =>
          obtain ⟨y0, y1, y2, y3, y4, z0, z1, z2, z3, z4, o1, o2, o3⟩ := HF.out W hW
          go_simp
          rfl
      simp only [Act.put, List.setIfInBounds_toArray, List.set_cons_zero, List.set_cons_succ]
      refine q_call (v := .int .i64 ex) (f := ?qf1069) (args := ?qa1069) (by rfl) (fun W hW => ?qh1069) (fun W hW => ?qc1069) ?qr1069
      case qh1069 =>
        go_simp
        constructor
        · rfl
        · rfl
      case qc1069 => exact (QX.out W hW).mono (fun e w' h => ⟨h.1, Gr.trans hW h.2⟩)
      simp only [Act.put, List.setIfInBounds_toArray, List.set_cons_zero, List.set_cons_succ]
      refine q_val (v := ?qv1070) (by rfl) (fun W hW => ?qh1070) ?qr1070
      case qh1070 =>
          go_simp
          rfl
      simp only [Act.put, List.setIfInBounds_toArray, List.set_cons_zero, List.set_cons_succ]
      refine q_val (v := ?qv1071) (by rfl) (fun W hW => ?qh1071) ?qr1071
      case qh1071 =>
          go_simp
          rfl
      simp only [Act.put, List.setIfInBounds_toArray, List.set_cons_zero, List.set_cons_succ]
      refine q_val (v := ?qv1072) (by rfl) (fun W hW => ?qh1072) ?qr1072
      case qh1072 =>
          go_simp
          rfl
      simp only [Act.put, List.setIfInBounds_toArray, List.set_cons_zero, List.set_cons_succ]
      refine q_val (v := ?qv1073) (by rfl) (fun W hW => ?qh1073) ?qr1073
      case qh1073 =>
          obtain ⟨y0, y1, y2, y3, y4, z0, z1, z2, z3, z4, o1, o2, o3⟩ := HF.out W hW
          go_simp
          rfl
      simp only [Act.put, List.setIfInBounds_toArray, List.set_cons_zero, List.set_cons_succ]
      refine q_call (v := .int .i64 ey) (f := ?qf1074) (args := ?qa1074) (by rfl) (fun W hW => ?qh1074) (fun W hW => ?qc1074) ?qr1074
      case qh1074 =>
        go_simp
        constructor
        · rfl
        · rfl
      case qc1074 => exact (QY.out W hW).mono (fun e w' h => ⟨h.1, Gr.trans hW h.2⟩)
      simp only [Act.put, List.setIfInBounds_toArray, List.set_cons_zero, List.set_cons_succ]
      refine q_val (v := ?qv1075) (by rfl) (fun W hW => ?qh1075) ?qr1075
      case qh1075 =>
          go_simp
          rfl
      simp only [Act.put, List.setIfInBounds_toArray, List.set_cons_zero, List.set_cons_succ]
      refine q_val (v := ?qv1076) (by rfl) (fun W hW => ?qh1076) ?qr1076
      case qh1076 =>
          go_simp
          rfl
      simp only [Act.put, List.setIfInBounds_toArray, List.set_cons_zero, List.set_cons_succ]
      refine q_val (v := ?qv1077) (by rfl) (fun W hW => ?qh1077) ?qr1077
      case qh1077 =>
          go_simp
          rfl
      simp only [Act.put, List.setIfInBounds_toArray, List.set_cons_zero, List.set_cons_succ]
      refine q_val (v := ?qv1078) (by rfl) (fun W hW => ?qh1078) ?qr1078
      case qh1078 =>
          go_simp
          rfl
      simp only [Act.put, List.setIfInBounds_toArray, List.set_cons_zero, List.set_cons_succ]
      refine q_val (v := ?qv1079) (by rfl) (fun W hW => ?qh1079) ?qr1079
      case qh1079 =>
          go_simp
          rfl
      simp only [Act.put, List.setIfInBounds_toArray, List.set_cons_zero, List.set_cons_succ]
      refine q_val (v := ?qv1080) (by rfl) (fun W hW => ?qh1080) ?qr1080
      case qh1080 =>
          go_simp
          rfl
      simp only [Act.put, List.setIfInBounds_toArray, List.set_cons_zero, List.set_cons_succ]
      refine q_val (v := ?qv1081) (by rfl) (fun W hW => ?qh1081) ?qr1081
      case qh1081 =>
          go_simp
          rfl
      simp only [Act.put, List.setIfInBounds_toArray, List.set_cons_zero, List.set_cons_succ]
      refine q_val (v := ?qv1082) (by rfl) (fun W hW => ?qh1082) ?qr1082
      case qh1082 =>
          obtain ⟨y0, y1, y2, y3, y4, z0, z1, z2, z3, z4, o1, o2, o3⟩ := HF.out W hW
          go_simp
          rfl
      simp only [Act.put, List.setIfInBounds_toArray, List.set_cons_zero, List.set_cons_succ]
      refine q_val (v := ?qv1083) (by rfl) (fun W hW => ?qh1083) ?qr1083
      case qh1083 =>
          go_simp
          rfl
      simp only [Act.put, List.setIfInBounds_toArray, List.set_cons_zero, List.set_cons_succ]
      refine q_val (v := ?qv1084) (by rfl) (fun W hW => ?qh1084) ?qr1084
      case qh1084 =>
          go_simp
          rfl
      simp only [Act.put, List.setIfInBounds_toArray, List.set_cons_zero, List.set_cons_succ]
      refine q_val (v := ?qv1085) (by rfl) (fun W hW => ?qh1085) ?qr1085
      case qh1085 =>
          go_simp
          rfl
      simp only [Act.put, List.setIfInBounds_toArray, List.set_cons_zero, List.set_cons_succ]
      refine q_val (v := ?qv1086) (by rfl) (fun W hW => ?qh1086) ?qr1086
      case qh1086 =>
          go_simp
          rfl
      simp only [Act.put, List.setIfInBounds_toArray, List.set_cons_zero, List.set_cons_succ]
      refine q_val (v := ?qv1087) (by rfl) (fun W hW => ?qh1087) ?qr1087
      case qh1087 =>
          obtain ⟨y0, y1, y2, y3, y4, z0, z1, z2, z3, z4, o1, o2, o3⟩ := HF.out W hW
          go_simp
          rfl
      simp only [Act.put, List.setIfInBounds_toArray, List.set_cons_zero, List.set_cons_succ]
      refine q_val (v := ?qv1088) (by rfl) (fun W hW => ?qh1088) ?qr1088
      case qh1088 =>
          go_simp
          rfl
      simp only [Act.put, List.setIfInBounds_toArray, List.set_cons_zero, List.set_cons_succ]
      refine q_val (v := ?qv1089) (by rfl) (fun W hW => ?qh1089) ?qr1089
      case qh1089 =>
          go_simp
          rfl
      simp only [Act.put, List.setIfInBounds_toArray, List.set_cons_zero, List.set_cons_succ]
      refine wpQuiet_nil ?_
      intro w6 hg6
      have gr6 := Gr.trans hgr hg6
      clear HF hg6 QX QY
      go_wp2
      go_roundw
      case rel => exact ⟨k + 1, by omega, by go_num, gr6⟩
      case measure => simp [intOf]; omega
    · have hkk : k = M.length := by omega
      subst hkk
      go_wp2_with fail
      refine (known18_any _).mono ?_; rintro e w5 ⟨rfl, hg5⟩
      go_wp2
      go_ret
      exact ⟨rfl, Gr.trans gwr hg5⟩
end Go.Proofs.Ytoikpkgogncdhaa
