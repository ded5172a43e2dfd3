/- The contract of series.Join: series at the same times, or the error. -/
import Derived.Test.YtoikpkgogncdhaaSrJnP
import Derived.Test.YtoikpkgogncdhaaSrShrink
import Derived.Test.YtoikpkgogncdhaaRegQ
namespace Go.Proofs.Ytoikpkgogncdhaa
set_option linter.unusedVariables false
set_option linter.unusedSimpArgs false
open Go.RowKit

set_option maxRecDepth 100000 in
set_option maxHeartbeats 3200000 in
theorem join_any (A : Option Addr) (c : Nat) (L : List Sq) (w : World) (hl : (L.length : Int) ≤ 1000) (hle : ∀ x ∈ L, x.s.vals.length ≤ 1000000) (hcap : ∀ x ∈ L, x.s.vals.length ≤ x.c) (hr : Rl w A L) (hv : Lie w L) :
    Calls Try.prog 29 #[.slice A L.length c] w (RetJ (L.map Sq.s) w) := by
  have hl131 : (L.length : Int) ≤ 131072 := by omega
  obtain ⟨i0, hi0, hz0, hz1, hz2⟩ := info_parts info_ser
  have QC := fun w hr hv => cons_any A c L w hl131 hr hv
  cases hok : okL L
  case false =>
    have he : errJ (L.map Sq.s) = 1 := by unfold errJ; rw [← okL_all, hok]; rfl
    have HE := Lib.hid he; clear he
    simp only [hok, Bool.not_false] at QC
    go_enter Try.func29, Try.ntmps29
    go_wp2_with fail
    refine (QC _ hr hv).mono ?_; rintro e w1 ⟨rfl, hg⟩
    go_wp2
    exact bodyPost_ret (v := .tuple #[.slice none 0 0, .int .i64 1]) (by simp [results, Try.results29, go_sem]) rfl (RetJ.err HE.out (join_no (by rw [HE.out]; decide)) hg)
  simp only [hok, Bool.not_true] at QC
  rcases Nat.eq_zero_or_pos L.length with h0 | h0
  · have hL : L = [] := List.eq_nil_of_length_eq_zero h0
    subst hL
    go_enter Try.func29, Try.ntmps29
    go_wp2_with fail
    refine (QC _ hr hv).mono ?_; rintro e w1 ⟨rfl, hg⟩
    go_wp2
    exact bodyPost_ret (v := .tuple #[.slice none 0 0, .int .i64 0]) (by simp [results, Try.results29, go_sem]) rfl (RetJ.err (by rfl) (by rfl) hg)
  obtain ⟨S, hS⟩ : ∃ S, L.map Sq.s = S := ⟨_, rfl⟩
  rw [hS]
  have hSl : S.length = L.length := by rw [← hS]; simp
  have hSk : ∀ k (h : k < L.length), S[k]'(by omega) = L[k].s := fun k h => by subst hS; simp
  have hall : S.all isS = true := by rw [← hS, ← okL_all]; exact hok
  have hokx : ∀ k (h : k < L.length), Ok L[k].s := fun k h => by rw [← hSk k h]; exact (isS_iff _).1 (List.all_eq_true.1 hall _ (List.getElem_mem _))
  have hne : S ≠ [] := fun e => by rw [e] at hSl; simp at hSl; omega
  have HNX : Hid (∀ k (h : k < L.length) (st : Nat) (a e : Int), stepS (S.take k) = st ∧ minS (S.take k) L[0].s.start = a ∧ lastS (S.take k) = e →
      stepS (S.take (k + 1)) = comS st L[k].s ∧ minS (S.take (k + 1)) L[0].s.start = min a L[k].s.start ∧ lastS (S.take (k + 1)) = max e (endS L[k].s)) := Lib.hid (fun k h st a e ⟨h1, h2, h3⟩ => by
    have hk : k < S.length := by omega
    rw [step_next hk, min_next hk, last_next hk, h1, h2, h3, hSk k h]
    exact ⟨rfl, rfl, rfl⟩)
  have HMF : Hid (minS S L[0].s.start = minS S 4294967295) := Lib.hid (by
    rw [← hSk 0 h0]
    match S, hne with
    | x :: r, _ => exact min_first (by have := hokx 0 h0; rw [← hSk 0 h0] at this; exact this.s1))
  have HOK := Lib.hid hokx
  have HPRE := Lib.hid (fun h => join_pre hall hne h)
  have HERR : Hid (errJ S = if stepS S = 0 then 13 else if 131072 < countJ S then 13 else 0) := Lib.hid (by unfold errJ; rw [if_pos hall, if_neg hne])
  have HSL := Lib.hid hSl
  have HSK : Hid (∀ k (h : k < L.length) (h2 : k < S.length), S[k] = L[k].s) := Lib.hid (fun k h _ => hSk k h)
  have HLE := Lib.hid hle
  have HCAP := Lib.hid hcap
  clear hS hSk hSl hall hokx hne hok hle hcap
  obtain ⟨ad, rfl, hb0, hx0, hx1, hx2, hx3, hx4⟩ := hr.at h0
  have hs0 := (HOK.out 0 h0).s0
  have hs1 := (HOK.out 0 h0).s1
  have hl0 : (0 : Int) < (L.length : Int) := by omega
  have hlb : ((L.length : Int) == 0) = false := beq_eq_false_iff_ne.2 (by omega)
  have hlb' : (L.length == 0) = false := beq_eq_false_iff_ne.2 (by omega)
  rw [show ad.add (0 * 5) = ad by simp [Addr.add]] at hx0 hx1 hx2 hx3 hx4
  go_enter Try.func29, Try.ntmps29
  go_wp2_with fail
  refine (QC _ hr hv).mono ?_; rintro e w1 ⟨rfl, hg1⟩
  have hy1 := (hg1.cell (p := ⟨ad.block, ad.off + 1, none⟩) hb0).trans hx1
  have hbw : ad.block < w1.heap.size := Nat.lt_of_lt_of_le hb0 hg1.size
  clear hx0 hx1 hx2 hx3 hx4 QC
  go_wp2
  go_quiet (fail)
  have hg2 := Gr.drewN hg1 nq
  generalize w1.drewN nq = w2 at hg2 ⊢
  clear hy1 hbw hg1
  go_wp2
  go_loopw [4, 5, 6, 24] (fun t4 t5 t6 i wr => ∃ (k st : Nat) (a e : Int), k ≤ L.length ∧ t4 = .int .i64 st ∧ t5 = .int .i64 a ∧ t6 = .int .i64 e ∧ i = .int .i64 k ∧ (st : Int) ≤ 16777216 ∧ 0 ≤ a ∧ a ≤ 4294967295 ∧ 0 ≤ e ∧ e ≤ 144115192370823168 ∧ Gr w wr ∧ Hid (stepS (S.take k) = st ∧ minS (S.take k) L[0].s.start = a ∧ lastS (S.take k) = e)) (fun _ _ _ i _ => L.length - (intOf i).toNat)
  case atStart => exact ⟨0, 1, _, 0, Nat.zero_le _, rfl, rfl, rfl, rfl, by decide, hs0, hs1, by decide, by decide, hg2, Lib.hid ⟨rfl, rfl, rfl⟩⟩
  case round =>
    obtain ⟨k, st, a, e, hk, rfl, rfl, rfl, rfl, hst, ha0, ha1, he0, he1, hgr, HI⟩ := hrel
    by_cases hlt : k < L.length
    · obtain ⟨x, hx⟩ : ∃ x, L[k] = x := ⟨_, rfl⟩
      obtain ⟨ad', e', hb, hx0, hx1, hx2, hx3, hx4⟩ := (hr.gr hgr).at hlt
      injection e' with e'
      subst e'
      have HN := HNX.out k hlt st a e HI.out
      have hvx := hv _ (List.getElem_mem hlt)
      have hox := HOK.out k hlt
      rw [hx] at hx0 hx1 hx2 hx3 hx4 HN hvx hox
      have HN := Lib.hid HN
      have e0 := hox.s0; have e1 := hox.s1; have e2 := hox.p0; have e3 := hox.p1
      obtain ⟨e4, e5⟩ := end_in hox
      clear hx hox
      rcases Nat.eq_zero_or_pos st with h00 | h00
      · subst h00
        have HN : Hid (stepS (S.take (k + 1)) = 0 ∧ minS (S.take (k + 1)) L[0].s.start = min a x.s.start ∧ lastS (S.take (k + 1)) = max e (endS x.s)) := HN
        go_wp2
        have hgx := Gr.refl (wr.alloc (.cells #[.string x.s.name, .int .i64 x.s.start, .int .i64 x.s.step, .slice x.A x.s.vals.length x.c, .int .i64 x.s.cons] 24))
        have gwn : Gr w (wr.alloc (.cells #[.string x.s.name, .int .i64 x.s.start, .int .i64 x.s.step, .slice x.A x.s.vals.length x.c, .int .i64 x.s.cons] 24)) := Gr.trans (Gr.alloc hgr _) hgx
        have HF : Hid (∀ W, Gr (wr.alloc (.cells #[.string x.s.name, .int .i64 x.s.start, .int .i64 x.s.step, .slice x.A x.s.vals.length x.c, .int .i64 x.s.cons] 24)) W → W.cell? ⟨wr.heap.size, 0, none⟩ = some (.string x.s.name) ∧ W.cell? ⟨wr.heap.size, 1, none⟩ = some (.int .i64 x.s.start) ∧ W.cell? ⟨wr.heap.size, 2, none⟩ = some (.int .i64 x.s.step) ∧ W.cell? ⟨wr.heap.size, 3, none⟩ = some (.slice x.A x.s.vals.length x.c) ∧ W.cell? ⟨wr.heap.size, 4, none⟩ = some (.int .i64 x.s.cons)) := Lib.hid (fun W hW => ⟨((Gr.trans hgx hW).cell (p := ⟨wr.heap.size, 0, none⟩) (by simp)).trans (by go_simp), ((Gr.trans hgx hW).cell (p := ⟨wr.heap.size, 1, none⟩) (by simp)).trans (by go_simp), ((Gr.trans hgx hW).cell (p := ⟨wr.heap.size, 2, none⟩) (by simp)).trans (by go_simp), ((Gr.trans hgx hW).cell (p := ⟨wr.heap.size, 3, none⟩) (by simp)).trans (by go_simp), ((Gr.trans hgx hW).cell (p := ⟨wr.heap.size, 4, none⟩) (by simp)).trans (by go_simp)⟩)
        refine region_Q (by kernel_rfl) (by kernel_rfl) ?_
        refine q_val (v := ?qv1) (by rfl) (fun W hW => ?qh1) ?qr1
        case qh1 =>
            go_simp
            rfl
        simp only [Act.put, List.setIfInBounds_toArray, List.set_cons_zero, List.set_cons_succ]
        refine q_val (v := ?qv2) (by rfl) (fun W hW => ?qh2) ?qr2
        case qh2 =>
            go_simp
            rfl
        simp only [Act.put, List.setIfInBounds_toArray, List.set_cons_zero, List.set_cons_succ]
        refine q_val (v := ?qv3) (by rfl) (fun W hW => ?qh3) ?qr3
        case qh3 =>
            obtain ⟨y0, y1, y2, y3, y4⟩ := HF.out W hW
            go_simp
            rfl
        simp only [Act.put, List.setIfInBounds_toArray, List.set_cons_zero, List.set_cons_succ]
        refine q_val (v := ?qv4) (by rfl) (fun W hW => ?qh4) ?qr4
        case qh4 =>
            go_simp
            rfl
        simp only [Act.put, List.setIfInBounds_toArray, List.set_cons_zero, List.set_cons_succ]
        refine q_val (v := ?qv5) (by rfl) (fun W hW => ?qh5) ?qr5
        case qh5 =>
            go_simp
            rfl
        simp only [Act.put, List.setIfInBounds_toArray, List.set_cons_zero, List.set_cons_succ]
        refine q_val (v := ?qv6) (by rfl) (fun W hW => ?qh6) ?qr6
        case qh6 =>
            obtain ⟨y0, y1, y2, y3, y4⟩ := HF.out W hW
            go_simp
            rfl
        simp only [Act.put, List.setIfInBounds_toArray, List.set_cons_zero, List.set_cons_succ]
        refine q_call (v := .int .i64 (endS x.s)) (f := ?qf7) (args := ?qa7) (by rfl) (fun W hW => ?qh7) (fun W hW => ?qc7) ?qr7
        case qh7 =>
          go_simp
          constructor
          · rfl
          · rfl
        case qc7 => exact (send_any x.s x.A x.c W ((hvx.gr gwn).gr hW)).mono (fun e w' h => ⟨h.1, Gr.trans hW h.2⟩)
        simp only [Act.put, List.setIfInBounds_toArray, List.set_cons_zero, List.set_cons_succ]
        refine q_val (v := ?qv8) (by rfl) (fun W hW => ?qh8) ?qr8
        case qh8 =>
            go_simp
            rfl
        simp only [Act.put, List.setIfInBounds_toArray, List.set_cons_zero, List.set_cons_succ]
        refine q_val (v := ?qv9) (by rfl) (fun W hW => ?qh9) ?qr9
        case qh9 =>
            go_simp
            rfl
        simp only [Act.put, List.setIfInBounds_toArray, List.set_cons_zero, List.set_cons_succ]
        refine q_val (v := ?qv10) (by rfl) (fun W hW => ?qh10) ?qr10
        case qh10 =>
            go_simp
            rfl
        simp only [Act.put, List.setIfInBounds_toArray, List.set_cons_zero, List.set_cons_succ]
        refine wpQuiet_nil ?_
        intro w6 hg6
        have gw6 := Gr.trans gwn hg6
        clear HF hg6 gwn hgx
        go_wp2
        go_roundw
        case rel => exact ⟨k + 1, 0, min a x.s.start, max e (endS x.s), by omega, rfl, rfl, rfl, by go_num, by decide, by omega, by omega, by omega, by omega, gw6, HN⟩
        case measure => simp [intOf]; omega
      · have HCO : Hid (∀ w, Calls Try.prog 50 #[.int .i64 st, .int .i64 x.s.step] w fun e w' => e = .returned (.int .i64 (comN st x.s.step.toNat : Nat)) ∧ Gr w w') := Lib.hid (fun w => by
          have h := common_any st x.s.step.toNat w h00 (by omega) hst (by omega)
          rw [Int.toNat_of_nonneg (by omega)] at h
          exact h)
        have hcl := comN_le (a := st) (b := x.s.step.toNat) (by omega)
        obtain ⟨cn, hcn⟩ : ∃ cn, comN st x.s.step.toNat = cn := ⟨_, rfl⟩
        rw [hcn] at HCO hcl
        have hcI : (cn : Int) ≤ 16777216 := by omega
        have HN : Hid (stepS (S.take (k + 1)) = cn ∧ minS (S.take (k + 1)) L[0].s.start = min a x.s.start ∧ lastS (S.take (k + 1)) = max e (endS x.s)) := Lib.hid (by
          obtain ⟨h1, h2, h3⟩ := HN.out
          refine ⟨?_, h2, h3⟩
          rw [h1, ← hcn]; unfold comS; rw [if_neg (by omega)])
        have hstp : (0 : Int) < (st : Int) := by omega
        clear hcn
        go_wp2_with fail
        refine (HCO.out _).mono ?_; rintro e w5 ⟨rfl, hgx⟩
        have hc1 : w5.cell? ⟨wr.heap.size, 1, none⟩ = some (.int .i64 x.s.start) := (hgx.cell (p := ⟨wr.heap.size, 1, none⟩) (by simp)).trans (by go_simp)
        go_wp2
        clear hc1
        have gwn : Gr w w5 := Gr.trans (Gr.alloc hgr _) hgx
        have HF : Hid (∀ W, Gr w5 W → W.cell? ⟨wr.heap.size, 0, none⟩ = some (.string x.s.name) ∧ W.cell? ⟨wr.heap.size, 1, none⟩ = some (.int .i64 x.s.start) ∧ W.cell? ⟨wr.heap.size, 2, none⟩ = some (.int .i64 x.s.step) ∧ W.cell? ⟨wr.heap.size, 3, none⟩ = some (.slice x.A x.s.vals.length x.c) ∧ W.cell? ⟨wr.heap.size, 4, none⟩ = some (.int .i64 x.s.cons)) := Lib.hid (fun W hW => ⟨((Gr.trans hgx hW).cell (p := ⟨wr.heap.size, 0, none⟩) (by simp)).trans (by go_simp), ((Gr.trans hgx hW).cell (p := ⟨wr.heap.size, 1, none⟩) (by simp)).trans (by go_simp), ((Gr.trans hgx hW).cell (p := ⟨wr.heap.size, 2, none⟩) (by simp)).trans (by go_simp), ((Gr.trans hgx hW).cell (p := ⟨wr.heap.size, 3, none⟩) (by simp)).trans (by go_simp), ((Gr.trans hgx hW).cell (p := ⟨wr.heap.size, 4, none⟩) (by simp)).trans (by go_simp)⟩)
        refine region_Q (by kernel_rfl) (by kernel_rfl) ?_
        refine q_val (v := ?qv11) (by rfl) (fun W hW => ?qh11) ?qr11
        case qh11 =>
            go_simp
            rfl
        simp only [Act.put, List.setIfInBounds_toArray, List.set_cons_zero, List.set_cons_succ]
        refine q_val (v := ?qv12) (by rfl) (fun W hW => ?qh12) ?qr12
        case qh12 =>
            go_simp
            rfl
        simp only [Act.put, List.setIfInBounds_toArray, List.set_cons_zero, List.set_cons_succ]
        refine q_val (v := ?qv13) (by rfl) (fun W hW => ?qh13) ?qr13
        case qh13 =>
            obtain ⟨y0, y1, y2, y3, y4⟩ := HF.out W hW
            go_simp
            rfl
        simp only [Act.put, List.setIfInBounds_toArray, List.set_cons_zero, List.set_cons_succ]
        refine q_val (v := ?qv14) (by rfl) (fun W hW => ?qh14) ?qr14
        case qh14 =>
            go_simp
            rfl
        simp only [Act.put, List.setIfInBounds_toArray, List.set_cons_zero, List.set_cons_succ]
        refine q_val (v := ?qv15) (by rfl) (fun W hW => ?qh15) ?qr15
        case qh15 =>
            go_simp
            rfl
        simp only [Act.put, List.setIfInBounds_toArray, List.set_cons_zero, List.set_cons_succ]
        refine q_val (v := ?qv16) (by rfl) (fun W hW => ?qh16) ?qr16
        case qh16 =>
            obtain ⟨y0, y1, y2, y3, y4⟩ := HF.out W hW
            go_simp
            rfl
        simp only [Act.put, List.setIfInBounds_toArray, List.set_cons_zero, List.set_cons_succ]
        refine q_call (v := .int .i64 (endS x.s)) (f := ?qf17) (args := ?qa17) (by rfl) (fun W hW => ?qh17) (fun W hW => ?qc17) ?qr17
        case qh17 =>
          go_simp
          constructor
          · rfl
          · rfl
        case qc17 => exact (send_any x.s x.A x.c W ((hvx.gr gwn).gr hW)).mono (fun e w' h => ⟨h.1, Gr.trans hW h.2⟩)
        simp only [Act.put, List.setIfInBounds_toArray, List.set_cons_zero, List.set_cons_succ]
        refine q_val (v := ?qv18) (by rfl) (fun W hW => ?qh18) ?qr18
        case qh18 =>
            go_simp
            rfl
        simp only [Act.put, List.setIfInBounds_toArray, List.set_cons_zero, List.set_cons_succ]
        refine q_val (v := ?qv19) (by rfl) (fun W hW => ?qh19) ?qr19
        case qh19 =>
            go_simp
            rfl
        simp only [Act.put, List.setIfInBounds_toArray, List.set_cons_zero, List.set_cons_succ]
        refine q_val (v := ?qv20) (by rfl) (fun W hW => ?qh20) ?qr20
        case qh20 =>
            go_simp
            rfl
        simp only [Act.put, List.setIfInBounds_toArray, List.set_cons_zero, List.set_cons_succ]
        refine wpQuiet_nil ?_
        intro w6 hg6
        have gw6 := Gr.trans gwn hg6
        clear HF hg6 gwn hgx
        go_wp2
        go_roundw
        case rel => exact ⟨k + 1, cn, min a x.s.start, max e (endS x.s), by omega, rfl, rfl, rfl, by go_num, hcI, by omega, by omega, by omega, by omega, gw6, HN⟩
        case measure => simp [intOf]; omega
    · have hkk : k = L.length := by omega
      subst hkk
      have HI2 : Hid (stepS S = st ∧ minS S 4294967295 = a ∧ lastS S = e) := Lib.hid (by
        have h := HI.out
        rw [← HSL.out, List.take_length, HMF.out] at h
        exact h)
      clear HI
      rcases Nat.eq_zero_or_pos st with h00 | h00
      · subst h00
        have HE : Hid (errJ S = 13) := Lib.hid (by rw [HERR.out, if_pos HI2.out.1])
        go_wp2
        exact bodyPost_ret (v := .tuple #[.slice none 0 0, .int .i64 13]) (by simp [results, Try.results29, go_sem]) rfl (RetJ.err HE.out (join_no (by rw [HE.out]; decide)) hgr)
      have hst0 : stepS S ≠ 0 := by rw [HI2.out.1]; omega
      obtain ⟨p1, p2, p3, p4, p5, p6⟩ := HPRE.out hst0
      rw [HI2.out.1] at p1 p2
      obtain ⟨sj, hsj⟩ : ∃ sj, startJ S = sj := ⟨_, rfl⟩
      have hsjv : sj = a - a % (st : Int) := by rw [← hsj]; unfold startJ; rw [HI2.out.1, HI2.out.2.1]
      obtain ⟨r, hr0⟩ : ∃ r, a % (st : Int) = r := ⟨_, rfl⟩
      have htm : Int.tmod a (st : Int) = r := by rw [Int.tmod_eq_emod_of_nonneg ha0, hr0]
      have hrn := Int.emod_nonneg a (b := (st : Int)) (by omega)
      rw [hr0] at hrn hsjv
      rw [hsj] at p3 p4 p5
      rw [HI2.out.2.2] at p5
      have hsub : a - r = sj := hsjv.symm
      have HSJ := Lib.hid hsj
      obtain ⟨n, hn⟩ : ∃ n, upI (e - sj) (st : Int) = n := ⟨_, rfl⟩
      have HCN : Hid (countJ S = n) := Lib.hid (by unfold countJ; rw [HI2.out.1, HI2.out.2.2, HSJ.out, hn])
      have HUP : Hid (∀ w, Calls Try.prog 36 #[.int .i64 (e - sj), .int .i64 st] w fun e w' => e = .returned (.int .i64 n) ∧ Gr w w') := Lib.hid (fun w => by rw [← hn]; exact up_any (e - sj) st w p5 (by omega) p1 (by omega))
      have hstI : (st : Int) ≠ 0 := by omega
      have hstb : ((st : Int) == 0) = false := beq_eq_false_iff_ne.2 (by omega)
      have hstb' : (st == 0) = false := beq_eq_false_iff_ne.2 (by omega)
      have hrI : r ≤ a := by omega
      clear hsj hsjv hr0 hn hst0
      go_wp2_with fail
      refine (HUP.out _).mono ?_; rintro e' w3 ⟨rfl, hg3⟩
      have gw3 := Gr.trans hgr hg3
      by_cases hbig : (131072 : Int) < n
      case pos =>
        have HE : Hid (errJ S = 13) := Lib.hid (by rw [HERR.out, HI2.out.1, if_neg (by omega), HCN.out, if_pos hbig])
        go_wp2
        exact bodyPost_ret (v := .tuple #[.slice none 0 0, .int .i64 13]) (by simp [results, Try.results29, go_sem]) rfl (RetJ.err HE.out (join_no (by rw [HE.out]; decide)) gw3)
      have HE : Hid (errJ S = 0) := Lib.hid (by rw [HERR.out, HI2.out.1, if_neg (by omega), HCN.out, if_neg hbig])
      clear hgr hg3 HUP
      go_wp2
      go_loopw [10, 59] (fun v i wr => ∃ (k : Nat) (M : List Sq), k ≤ L.length ∧ i = .int .i64 k ∧ Gr w wr ∧ wr.ownsRow w.heap.size 24 5 v k (scells M) ∧ M.length = k ∧ Lie wr M ∧ Apart v.ownBlock M ∧ Hid (M.map Sq.s = (S.take k).map fun s => fitS s sj (st : Int) n)) (fun _ i _ => L.length - (intOf i).toNat)
      case atStart => exact ⟨0, [], Nat.zero_le _, rfl, gw3, World.ownsRow_nil _ _ _ _, rfl, fun x hx => absurd hx (by simp), fun x hx => absurd hx (by simp), Lib.hid rfl⟩
      case round =>
        obtain ⟨k, M, hk, rfl, hgr, hown, hMl, hLie, hAp, HM⟩ := hrel
        by_cases hlt : k < L.length
        · obtain ⟨x, hx⟩ : ∃ x, L[k] = x := ⟨_, rfl⟩
          obtain ⟨ad', e', hb, hx0, hx1, hx2, hx3, hx4⟩ := (hr.gr hgr).at hlt
          injection e' with e'
          subst e'
          have hvx := hv _ (List.getElem_mem hlt)
          have hlx := HLE.out _ (List.getElem_mem hlt)
          have hcx := HCAP.out _ (List.getElem_mem hlt)
          have hsk := HSK.out k hlt (by have := HSL.out; omega)
          rw [hx] at hx0 hx1 hx2 hx3 hx4 hvx hlx hcx hsk
          obtain ⟨T, hT⟩ : ∃ T, fitS x.s sj (st : Int) n = T := ⟨_, rfl⟩
          have HFT : Hid (∀ w, Rv w x.A x.s.vals → Calls Try.prog 13 #[.agg #[.string x.s.name, .int .i64 x.s.start, .int .i64 x.s.step, .slice x.A x.s.vals.length x.c, .int .i64 x.s.cons], .int .i64 sj, .int .i64 st, .int .i64 n] w (RetS T w)) := Lib.hid (fun w hr => by rw [← hT]; exact fit_any x.s x.A x.c sj (st : Int) n w hlx hcx hr)
          have HM2 : Hid (∀ y : Sq, y.s = T → (M ++ [y]).map Sq.s = (S.take (k + 1)).map fun s => fitS s sj (st : Int) n) := Lib.hid (fun y hy => by
            rw [List.take_succ_eq_append_getElem (by have := HSL.out; omega), List.map_append, List.map_append, HM.out, hsk]
            simp [hy, hT])
          clear hT hsk hx hlx hcx HM
          go_wp2_with fail
          refine (HFT.out _ (hvx.gr (Gr.alloc hgr _))).mono ?_; rintro e' w5 ⟨A5, c5, rfl, hr5, hg5, hnew⟩
          have hbox := Gr.trans (Gr.alloc (Gr.refl wr) _) hg5
          have hown5 := own_gr hown hbox
          have gw5 := Gr.trans hgr hbox
          have hLie5 := hLie.gr hbox
          have hrx := Rl.new (W := w5) rfl 24 [⟨T, A5, c5⟩]
          have hv0 := hown5.alloc (.cells (scells [⟨T, A5, c5⟩]).toArray 24)
          have hvl := hown5.lt
          have z5 := gw5.size
          have HNW := Lib.hid (fun (ad : Addr) (h : A5 = some ad) => new_apart hown (ad := ad) (by have h1 := hnew ad h; simp at h1; omega))
          clear hnew hg5 hx0 hx1 hx2 hx3 hx4
          go_wp2_with
            (at_builtin
             refine wpList_append_rd rfl (.tmp 63) (.tmp 69) 38 rfl w.heap.size 24 i0 _ 5 64 Try.underlying38 hi0 hz0 hz1 hz2 rfl (by decide) _ k _ rfl hv0 (some ⟨w5.heap.size, 0, none⟩) 1 _ (scells [⟨T, A5, c5⟩]) rfl hrx (scells_one _) (by unfold maxLen; omega) (by omega) (by simp; omega) ?_
             intro v' w7 hown7 hgr7 hat7)
          have hg7 : Gr w w7 := Gr.grown (Gr.alloc gw5 _) hgr7 (fun j hj => (hvl j hj).1)
          have hLie7 : Lie w7 (M ++ [⟨T, A5, c5⟩]) := fun y hy => by
            rcases List.mem_append.1 hy with hy | hy
            · exact Rv.grown ((hLie5 y hy).gr (Gr.alloc (Gr.refl w5) _)) hgr7 (fun hn ad h => hAp y hy hn ad h)
            · rw [List.mem_singleton.1 hy]
              exact Rv.grown (hr5.gr (Gr.alloc (Gr.refl w5) _)) hgr7 (fun _ ad h => HNW.out ad h)
          have hAp7 : Apart v'.ownBlock (M ++ [⟨T, A5, c5⟩]) := fun y hy hn ad h => by
            rcases hat7 with e7 | e7
            · rw [e7]
              rcases List.mem_append.1 hy with hy | hy
              · exact hAp y hy hn ad h
              · rw [List.mem_singleton.1 hy] at h; exact HNW.out ad h
            · rw [e7]
              intro e8
              injection e8 with e8
              simp at e8
              rcases List.mem_append.1 hy with hy | hy
              · have := (hLie5 y hy).blk hn h; omega
              · rw [List.mem_singleton.1 hy] at h hn
                have := hr5.blk hn h; omega
          have hown8 : w7.ownsRow w.heap.size 24 5 v' (k + 1) (scells (M ++ [⟨T, A5, c5⟩])) := by rw [scells_append]; exact hown7
          have HM3 := Lib.hid (HM2.out ⟨T, A5, c5⟩ rfl)
          clear hv0 hvl hgr7 hat7 hrx hown5 hown7 hown hLie hLie5 hAp hr5 hbox HM2
          go_roundw
          case rel => exact ⟨k + 1, M ++ [⟨T, A5, c5⟩], by omega, by go_num, hg7, hown8, by simp [hMl], hLie7, hAp7, HM3⟩
          case measure => simp [intOf]; omega
        · have hkk : k = L.length := by omega
          subst hkk
          obtain ⟨A', c', hvv⟩ := own_form hown
          subst hvv
          have hRd := Rd.own hown
          have HJ : Hid (M.map Sq.s = joinS S) := Lib.hid (by
            have h := HM.out
            rw [← HSL.out, List.take_length] at h
            unfold joinS
            rw [if_pos HE.out, HSJ.out, HI2.out.1, HCN.out]
            exact h)
          have HE2 : Hid (Ending.returned (.tuple #[.slice A' L.length c', .int .i64 0]) = Ending.returned (.tuple #[.slice A' M.length c', .int .i64 (errJ S)])) := Lib.hid (by rw [HE.out, hMl])
          have hRl : Rl wr A' M := by unfold Rl; rw [hMl]; exact hRd
          clear hMl HM hAp hown hRd
          go_wp2
          exact bodyPost_ret (v := .tuple #[.slice A' L.length c', .int .i64 0]) (by simp [results, Try.results29, go_sem]) rfl ⟨A', M, c', HE2.out, HJ.out, hRl, hLie, hgr⟩
end Go.Proofs.Ytoikpkgogncdhaa
