/- The contract of the law's all, and the law SeriesJoins of chapter 18. -/
import Derived.Test.YtoikpkgogncdhaaSrJoinR
import Derived.Test.YtoikpkgogncdhaaSrLaw1
namespace Go.Proofs.Ytoikpkgogncdhaa
set_option linter.unusedVariables false
set_option linter.unusedSimpArgs false
open Go.RowKit

set_option maxRecDepth 100000 in
set_option maxHeartbeats 3200000 in
theorem all_any (A A' : Option Addr) (c c' : Nat) (M N : List Sq) (w : World) (hl : (M.length : Int) ≤ 1000) (hMN : M.map Sq.s = N.map Sq.s) (hle : ∀ x ∈ M, x.s.vals.length ≤ 1000000) (hr : Rl w A M) (hr' : Rl w A' N) (hv : Lie w M) (hv' : Lie w N) :
    Calls Try.prog 30 #[.slice A M.length c, .slice A' N.length c'] w fun e w' => e = .returned (.bool true) ∧ Gr w w' := by
  have hlen : N.length = M.length := by have := congrArg List.length hMN; simpa using this.symm
  have HEQ : Hid (∀ k (h : k < M.length) (h2 : k < N.length), N[k].s = M[k].s) := Lib.hid (fun k h h2 => by
    have e1 : (N.map Sq.s)[k]'(by simpa using h2) = (M.map Sq.s)[k]'(by simpa using h) := by simp only [hMN]
    simpa using e1)
  have HL : Hid (∀ k, k < M.length → k < N.length) := Lib.hid (fun k h => by rw [hlen]; exact h)
  rw [hlen]
  clear hlen hMN
  go_enter Try.func30, Try.ntmps30
  go_wp2
  go_loopw [5] (fun i wr => ∃ k : Nat, k ≤ M.length ∧ i = .int .i64 k ∧ Gr w wr) (fun i _ => M.length - (intOf i).toNat)
  case atStart => exact ⟨0, Nat.zero_le _, rfl, Gr.refl _⟩
  case round =>
    obtain ⟨k, hk, rfl, hgr⟩ := hrel
    by_cases hlt : k < M.length
    · have hlt' := HL.out k hlt
      obtain ⟨ad, rfl, hb, hx0, hx1, hx2, hx3, hx4⟩ := (hr.gr hgr).at hlt
      obtain ⟨ad', rfl, hb', hy0, hy1, hy2, hy3, hy4⟩ := (hr'.gr hgr).at hlt'
      have hs := HEQ.out k hlt hlt'
      have hv1 := hv _ (List.getElem_mem hlt)
      have hv2 := hv' _ (List.getElem_mem hlt')
      have hTl := hle _ (List.getElem_mem hlt)
      obtain ⟨x, hx⟩ : ∃ x, M[k] = x := ⟨_, rfl⟩
      obtain ⟨y, hy⟩ : ∃ y, N[k] = y := ⟨_, rfl⟩
      rw [hx] at hx0 hx1 hx2 hx3 hx4 hs hv1 hTl
      rw [hy] at hy0 hy1 hy2 hy3 hy4 hs hv2
      clear hx hy
      obtain ⟨T, A1, d1⟩ := x
      obtain ⟨T2, A2, d2⟩ := y
      simp only at hs hx0 hx1 hx2 hx3 hx4 hy0 hy1 hy2 hy3 hy4 hv1 hv2 hTl
      subst hs
      have HF : Hid (∀ W, Gr wr W → W.cell? (ad.add (k * 5)) = some (.string T2.name) ∧ W.cell? ⟨(ad.add (k * 5)).block, (ad.add (k * 5)).off + 1, none⟩ = some (.int .i64 T2.start) ∧ W.cell? ⟨(ad.add (k * 5)).block, (ad.add (k * 5)).off + 2, none⟩ = some (.int .i64 T2.step) ∧ W.cell? ⟨(ad.add (k * 5)).block, (ad.add (k * 5)).off + 3, none⟩ = some (.slice A1 T2.vals.length d1) ∧ W.cell? ⟨(ad.add (k * 5)).block, (ad.add (k * 5)).off + 4, none⟩ = some (.int .i64 T2.cons) ∧ W.cell? (ad'.add (k * 5)) = some (.string T2.name) ∧ W.cell? ⟨(ad'.add (k * 5)).block, (ad'.add (k * 5)).off + 1, none⟩ = some (.int .i64 T2.start) ∧ W.cell? ⟨(ad'.add (k * 5)).block, (ad'.add (k * 5)).off + 2, none⟩ = some (.int .i64 T2.step) ∧ W.cell? ⟨(ad'.add (k * 5)).block, (ad'.add (k * 5)).off + 3, none⟩ = some (.slice A2 T2.vals.length d2) ∧ W.cell? ⟨(ad'.add (k * 5)).block, (ad'.add (k * 5)).off + 4, none⟩ = some (.int .i64 T2.cons)) := Lib.hid (fun W hW => ⟨(hW.cell (p := ad.add (k * 5)) (by rw [add_blk]; exact hb)).trans hx0, (hW.cell (p := ⟨(ad.add (k * 5)).block, (ad.add (k * 5)).off + 1, none⟩) (by show (ad.add (k * 5)).block < _; rw [add_blk]; exact hb)).trans hx1, (hW.cell (p := ⟨(ad.add (k * 5)).block, (ad.add (k * 5)).off + 2, none⟩) (by show (ad.add (k * 5)).block < _; rw [add_blk]; exact hb)).trans hx2, (hW.cell (p := ⟨(ad.add (k * 5)).block, (ad.add (k * 5)).off + 3, none⟩) (by show (ad.add (k * 5)).block < _; rw [add_blk]; exact hb)).trans hx3, (hW.cell (p := ⟨(ad.add (k * 5)).block, (ad.add (k * 5)).off + 4, none⟩) (by show (ad.add (k * 5)).block < _; rw [add_blk]; exact hb)).trans hx4, (hW.cell (p := ad'.add (k * 5)) (by rw [add_blk]; exact hb')).trans hy0, (hW.cell (p := ⟨(ad'.add (k * 5)).block, (ad'.add (k * 5)).off + 1, none⟩) (by show (ad'.add (k * 5)).block < _; rw [add_blk]; exact hb')).trans hy1, (hW.cell (p := ⟨(ad'.add (k * 5)).block, (ad'.add (k * 5)).off + 2, none⟩) (by show (ad'.add (k * 5)).block < _; rw [add_blk]; exact hb')).trans hy2, (hW.cell (p := ⟨(ad'.add (k * 5)).block, (ad'.add (k * 5)).off + 3, none⟩) (by show (ad'.add (k * 5)).block < _; rw [add_blk]; exact hb')).trans hy3, (hW.cell (p := ⟨(ad'.add (k * 5)).block, (ad'.add (k * 5)).off + 4, none⟩) (by show (ad'.add (k * 5)).block < _; rw [add_blk]; exact hb')).trans hy4⟩)
      clear hx0 hx1 hx2 hx3 hx4 hy0 hy1 hy2 hy3 hy4
      go_wp2
      refine region_Q (by kernel_rfl) (by kernel_rfl) ?_
      refine q_val (v := ?qv1) (by rfl) (fun W hW => ?qh1) ?qr1
      case qh1 =>
          go_simp
          rfl
      simp only [Act.put, List.setIfInBounds_toArray, List.set_cons_zero, List.set_cons_succ]
      refine q_val (v := ?qv2) (by rfl) (fun W hW => ?qh2) ?qr2
      case qh2 =>
          go_simp
          rfl
      simp only [Act.put, List.setIfInBounds_toArray, List.set_cons_zero, List.set_cons_succ]
      refine q_val (v := ?qv3) (by rfl) (fun W hW => ?qh3) ?qr3
      case qh3 =>
          go_simp
          rfl
      simp only [Act.put, List.setIfInBounds_toArray, List.set_cons_zero, List.set_cons_succ]
      refine q_val (v := ?qv4) (by rfl) (fun W hW => ?qh4) ?qr4
      case qh4 =>
          obtain ⟨y0, y1, y2, y3, y4, z0, z1, z2, z3, z4⟩ := HF.out W hW
          go_simp
          rfl
      simp only [Act.put, List.setIfInBounds_toArray, List.set_cons_zero, List.set_cons_succ]
      refine q_val (v := ?qv5) (by rfl) (fun W hW => ?qh5) ?qr5
      case qh5 =>
          go_simp
          rfl
      simp only [Act.put, List.setIfInBounds_toArray, List.set_cons_zero, List.set_cons_succ]
      refine q_val (v := ?qv6) (by rfl) (fun W hW => ?qh6) ?qr6
      case qh6 =>
          go_simp
          rfl
      simp only [Act.put, List.setIfInBounds_toArray, List.set_cons_zero, List.set_cons_succ]
      refine q_val (v := ?qv7) (by rfl) (fun W hW => ?qh7) ?qr7
      case qh7 =>
          go_simp
          rfl
      simp only [Act.put, List.setIfInBounds_toArray, List.set_cons_zero, List.set_cons_succ]
      refine q_val (v := ?qv8) (by rfl) (fun W hW => ?qh8) ?qr8
      case qh8 =>
          obtain ⟨y0, y1, y2, y3, y4, z0, z1, z2, z3, z4⟩ := HF.out W hW
          go_simp
          rfl
      simp only [Act.put, List.setIfInBounds_toArray, List.set_cons_zero, List.set_cons_succ]
      refine q_call (v := .bool true) (f := ?qf9) (args := ?qa9) (by rfl) (fun W hW => ?qh9) (fun W hW => ?qc9) ?qr9
      case qh9 =>
        go_simp
        constructor
        · rfl
        · rfl
      case qc9 => exact (same_self T2 A1 A2 d1 d2 W hTl ((hv1.gr hgr).gr hW) ((hv2.gr hgr).gr hW)).mono (fun e w' h => ⟨h.1, Gr.trans hW h.2⟩)
      simp only [Act.put, List.setIfInBounds_toArray, List.set_cons_zero, List.set_cons_succ]
      refine q_val (v := ?qv10) (by rfl) (fun W hW => ?qh10) ?qr10
      case qh10 =>
          go_simp
          rfl
      simp only [Act.put, List.setIfInBounds_toArray, List.set_cons_zero, List.set_cons_succ]
      refine wpQuiet_nil ?_
      intro w6 hg6
      have gw6 := Gr.trans hgr hg6
      clear HF hg6
      go_wp2
      go_roundw
      case rel => exact ⟨k + 1, by omega, by go_num, gw6⟩
      case measure => simp [intOf]; omega
    · have hkk : k = M.length := by omega
      subst hkk
      go_wp2
      go_ret
      exact ⟨rfl, hgr⟩

theorem joinS_len {S : List Sr} (h : ∀ s ∈ S, s.vals.length ≤ 1000000) : ∀ t ∈ joinS S, t.vals.length ≤ 1000000 := by
  intro t ht
  unfold joinS at ht
  split at ht
  · obtain ⟨s, hs, rfl⟩ := List.mem_map.1 ht
    exact fitS_len _ _ _ _ (h s hs)
  · cases ht
theorem joinS_count (S : List Sr) : (joinS S).length ≤ S.length := by
  unfold joinS; split <;> simp

set_option maxRecDepth 100000 in
set_option maxHeartbeats 3200000 in
theorem law_SeriesJoins (A : Option Addr) (c : Nat) (L : List Sq) (w : World) (hcap : ∀ x ∈ L, x.s.vals.length ≤ x.c) (hr : Rl w A L) (hv : Lie w L) :
    Calls Try.prog 7 #[.slice A L.length c] w fun e w' => e = .returned (.bool true) ∧ Gr w w' := by
  have HH := Lib.hid (heavy_any A c L w hr)
  go_enter Try.func7, Try.ntmps7
  go_wp2_with fail
  refine HH.out.mono ?_
  rintro e w1 ⟨⟨b, rfl, hb⟩, hg1⟩
  clear HH
  cases b
  case true =>
    go_wp2
    go_ret
    exact ⟨rfl, hg1⟩
  obtain ⟨hl20, hLt⟩ := hb rfl
  have hle : ∀ x ∈ L, x.s.vals.length ≤ 1000000 := fun x hx => by have := (hLt x hx).1; omega
  have hl : (L.length : Int) ≤ 1000 := by omega
  clear hLt hb hl20
  have hSl : ∀ s ∈ L.map Sq.s, s.vals.length ≤ 1000000 := fun s hs => by obtain ⟨x, hx, rfl⟩ := List.mem_map.1 hs; exact hle x hx
  have HJL := Lib.hid (joinS_len hSl)
  have HJC : Hid ((joinS (L.map Sq.s)).length ≤ L.length) := Lib.hid (by have := joinS_count (L.map Sq.s); simpa using this)
  have QR := fun w hr hv => rjoin_any A c L w hl hle hr hv
  have QP := fun w hr hv => join_any A c L w hl hle hcap hr hv
  clear hSl hle
  obtain ⟨S, hS⟩ : ∃ S, L.map Sq.s = S := ⟨_, rfl⟩
  rw [hS] at QR QP HJL HJC
  clear hS
  go_wp2_with fail
  refine (QR _ (hr.gr hg1) (hv.gr hg1)).mono ?_
  rintro e w2 ⟨A1, M, c1, rfl, hM, hRM, hLM, hg2⟩
  have g2 := Gr.trans hg1 hg2
  obtain ⟨E, hE⟩ : ∃ E, errJ S = E := ⟨_, rfl⟩
  have HMle : Hid (∀ x ∈ M, x.s.vals.length ≤ 1000000) := Lib.hid (fun x hx => HJL.out _ (by rw [← hM]; exact List.mem_map_of_mem hx))
  have HMl : Hid (M.length ≤ L.length) := Lib.hid (by have := congrArg List.length hM; simp at this; have := HJC.out; omega)
  have hMl : (M.length : Int) ≤ 1000 := by have := HMl.out; omega
  have HM := Lib.hid hM
  rw [hE]
  have HE := Lib.hid hE
  clear hM hE QR hg1 hg2
  rcases Nat.eq_zero_or_pos M.length with h0 | h0
  case' inr =>
    obtain ⟨ad, rfl, hb, m0, m1, m2, m3, m4⟩ := hRM.at h0
    rw [show ad.add (0 * 5) = ad by simp [Addr.add]] at m0 m1 m2 m3 m4
    have h0i : (0 : Int) < (M.length : Int) := by omega
    by_cases hbig : (1000 : Int) < (M[0].s.vals.length : Int)
    · go_wp2
      go_ret
      exact ⟨rfl, g2⟩
    clear m0 m1 m2 m4
  case' inl =>
    have hz : ¬ (0 : Int) < (M.length : Int) := by omega
    clear h0
  all_goals
    go_wp2_with fail
    refine (QP _ (hr.gr g2) (hv.gr g2)).mono ?_
    rintro e w3 ⟨A3, M3, c3, rfl, hM3, hRM3, hLM3, hg3⟩
    rw [HE.out]
    have g3 := Gr.trans g2 hg3
    have hMM : M3.map Sq.s = M.map Sq.s := by rw [hM3, HM.out]
    have hl3 : M3.length = M.length := by have := congrArg List.length hMM; simpa using this
    have hl3i : (M3.length : Int) ≤ 1000 := by omega
    have hle3 : ∀ x ∈ M3, x.s.vals.length ≤ 1000000 := fun x hx => HJL.out _ (by rw [← hM3]; exact List.mem_map_of_mem hx)
    have HA := Lib.hid (fun (B : Option Addr) (w : World) (hr : Rl w A3 M3) (hr' : Rl w B M) (hv : Lie w M3) (hv' : Lie w M) => all_any A3 B c3 c1 M3 M w hl3i hMM hle3 hr hr' hv hv')
    clear hM3 hMM hl3 hle3
    go_wp2_with fail
    refine (HA.out _ _ hRM3 (hRM.gr hg3) hLM3 (hLM.gr hg3)).mono ?_; rintro e w4 ⟨rfl, hg4⟩
    go_wp2_with fail
    refine (known18_any _).mono ?_; rintro e w5 ⟨rfl, hg5⟩
    go_wp2
    go_ret
    exact ⟨rfl, Gr.trans g3 (Gr.trans hg4 hg5)⟩
end Go.Proofs.Ytoikpkgogncdhaa
