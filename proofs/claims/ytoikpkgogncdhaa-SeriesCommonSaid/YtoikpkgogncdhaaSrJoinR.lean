/- The contract of the reference's Join. -/
import Derived.Test.YtoikpkgogncdhaaSrJoin
import Derived.Test.YtoikpkgogncdhaaSrShrinkR
namespace Go.Proofs.Ytoikpkgogncdhaa
set_option linter.unusedVariables false
set_option linter.unusedSimpArgs false
open Go.RowKit

theorem ref_com {a b : Nat} (ha : 0 < a) (hb : 0 < b) : (16777216 / a < b / Nat.gcd b a → comN a b = 0) ∧ (¬ 16777216 / a < b / Nat.gcd b a → comN a b = a * (b / Nat.gcd b a) ∧ 0 < a * (b / Nat.gcd b a)) := by
  have hg : 0 < Nat.gcd a b := Nat.gcd_pos_of_pos_left _ ha
  rw [Nat.gcd_comm b a]
  have hm : a / Nat.gcd a b * b = a * (b / Nat.gcd a b) := by
    obtain ⟨x, hx⟩ := Nat.gcd_dvd_left a b
    obtain ⟨y, hy⟩ := Nat.gcd_dvd_right a b
    generalize Nat.gcd a b = g at *
    subst hx hy
    rw [Nat.mul_div_cancel_left _ hg, Nat.mul_div_cancel_left _ hg, Nat.mul_comm g x, Nat.mul_assoc]
  have hp : 0 < a * (b / Nat.gcd a b) := Nat.mul_pos ha (Nat.div_pos (Nat.le_of_dvd hb (Nat.gcd_dvd_right a b)) hg)
  have e1 : 16777216 / b < a / Nat.gcd a b ↔ 16777216 < a / Nat.gcd a b * b := Nat.div_lt_iff_lt_mul hb
  have e2 : 16777216 / a < b / Nat.gcd a b ↔ 16777216 < b / Nat.gcd a b * a := Nat.div_lt_iff_lt_mul ha
  rw [Nat.mul_comm (b / Nat.gcd a b) a, ← hm] at e2
  unfold comN
  constructor
  · intro h; rw [if_pos (e1.2 (e2.1 h))]
  · intro h; rw [if_neg (fun h1 => h (e2.2 (e1.1 h1)))]; exact ⟨hm, hp⟩
theorem step_stays {S : List Sr} {k : Nat} (h : stepS (S.take k) = 0) : stepS S = 0 := by
  have e : stepS S = (S.drop k).foldl comS (stepS (S.take k)) := by
    unfold stepS
    rw [← List.foldl_append, List.take_append_drop]
  rw [e, h]; exact comS_zero _

set_option maxRecDepth 100000 in
set_option maxHeartbeats 6400000 in
theorem rjoin_any (A : Option Addr) (c : Nat) (L : List Sq) (w : World) (hl : (L.length : Int) ≤ 1000) (hle : ∀ x ∈ L, x.s.vals.length ≤ 1000000) (hr : Rl w A L) (hv : Lie w L) :
    Calls Try.prog 28 #[.slice A L.length c] w (RetJ (L.map Sq.s) w) := by
  obtain ⟨i0, hi0, hz0, hz1, hz2⟩ := info_parts info_ser
  obtain ⟨S, hS⟩ : ∃ S, L.map Sq.s = S := ⟨_, rfl⟩
  rw [hS]
  have hSl : S.length = L.length := by rw [← hS]; simp
  have HSK : Hid (∀ k (h : k < L.length) (h2 : k < S.length), S[k] = L[k].s) := Lib.hid (fun k h _ => by subst hS; simp)
  have HALL : Hid (okL L = S.all isS) := Lib.hid (by rw [← hS]; exact okL_all L)
  have HSL := Lib.hid hSl
  have HLE := Lib.hid hle
  clear hS hSl hle
  go_enter Try.func28, Try.ntmps28
  go_wp2
  go_loopw [5, 6, 7] (fun t5 t6 i wr => ∃ (k : Nat) (a e : Int), k ≤ L.length ∧ t5 = .int .i64 a ∧ t6 = .int .i64 e ∧ i = .int .i64 k ∧ 0 ≤ a ∧ a ≤ 4294967295 ∧ 0 ≤ e ∧ e ≤ 144115192370823168 ∧ Gr w wr ∧ Hid (minS (S.take k) 4294967295 = a ∧ lastS (S.take k) = e ∧ okL (L.take k) = true)) (fun _ _ i _ => L.length - (intOf i).toNat)
  case atStart => exact ⟨0, _, 0, Nat.zero_le _, rfl, rfl, rfl, by decide, by decide, by decide, by decide, Gr.refl _, Lib.hid ⟨rfl, rfl, rfl⟩⟩
  case round =>
    obtain ⟨k, a, e, hk, rfl, rfl, rfl, ha0, ha1, he0, he1, hgr, HI⟩ := hrel
    by_cases hlt : k < L.length
    · obtain ⟨x, hx⟩ : ∃ x, L[k] = x := ⟨_, rfl⟩
      obtain ⟨ad, rfl, hb, hx0, hx1, hx2, hx3, hx4⟩ := (hr.gr hgr).at hlt
      have hvx := hv _ (List.getElem_mem hlt)
      have hno := @okL_no L k hlt
      have htk := okL_take hlt
      have hsk := HSK.out k hlt (by have := HSL.out; omega)
      rw [hx] at hx0 hx1 hx2 hx3 hx4 hvx hno htk hsk
      rw [HI.out.2.2] at htk
      have QI := fun w hr => rsis_any x.s x.A x.c w hr
      have HNO := Lib.hid hno
      have HTK := Lib.hid htk
      have HS' := Lib.hid hsk
      clear hno htk hsk hx
      cases hxi : isS x.s
      · simp only [hxi] at QI
        have HE : Hid (errJ S = 1) := Lib.hid (by unfold errJ; rw [← HALL.out, HNO.out hxi]; rfl)
        go_wp2_with fail
        refine (QI _ (hvx.gr hgr)).mono ?_; rintro e' w5 ⟨rfl, hg5⟩
        go_wp2
        exact bodyPost_ret (v := .tuple #[.slice none 0 0, .int .i64 1]) (by simp [results, Try.results28, go_sem]) rfl (RetJ.err HE.out (join_no (by rw [HE.out]; decide)) (Gr.trans hgr hg5))
      · simp only [hxi] at QI
        have hox := (isS_iff _).1 hxi
        have f0 := hox.s0; have f1 := hox.s1
        obtain ⟨f4, f5⟩ := end_in hox
        have HN : Hid (minS (S.take (k + 1)) 4294967295 = min a x.s.start ∧ lastS (S.take (k + 1)) = max e (endS x.s) ∧ okL (L.take (k + 1)) = true) := Lib.hid (by
          have hk2 : k < S.length := by have := HSL.out; omega
          rw [min_next hk2, last_next hk2, HS'.out, HI.out.1, HI.out.2.1, HTK.out, hxi]
          exact ⟨rfl, rfl, rfl⟩)
        clear hox
        go_wp2_with fail
        refine (QI _ (hvx.gr hgr)).mono ?_; rintro e' w5 ⟨rfl, hg5⟩
        have gwn := Gr.trans hgr hg5
        have hbn : ad.block < w5.heap.size := Nat.lt_of_lt_of_le hb hg5.size
        replace hx0 := (hg5.cell (p := ad.add (k * 5)) (by rw [add_blk]; exact hb)).trans hx0
        replace hx1 := (hg5.cell (p := ⟨(ad.add (k * 5)).block, (ad.add (k * 5)).off + 1, none⟩) (by show (ad.add (k * 5)).block < _; rw [add_blk]; exact hb)).trans hx1
        replace hx2 := (hg5.cell (p := ⟨(ad.add (k * 5)).block, (ad.add (k * 5)).off + 2, none⟩) (by show (ad.add (k * 5)).block < _; rw [add_blk]; exact hb)).trans hx2
        replace hx3 := (hg5.cell (p := ⟨(ad.add (k * 5)).block, (ad.add (k * 5)).off + 3, none⟩) (by show (ad.add (k * 5)).block < _; rw [add_blk]; exact hb)).trans hx3
        replace hx4 := (hg5.cell (p := ⟨(ad.add (k * 5)).block, (ad.add (k * 5)).off + 4, none⟩) (by show (ad.add (k * 5)).block < _; rw [add_blk]; exact hb)).trans hx4
        go_wp2
        have HF : Hid (∀ W, Gr w5 W → W.cell? (ad.add (k * 5)) = some (.string x.s.name) ∧ W.cell? ⟨(ad.add (k * 5)).block, (ad.add (k * 5)).off + 1, none⟩ = some (.int .i64 x.s.start) ∧ W.cell? ⟨(ad.add (k * 5)).block, (ad.add (k * 5)).off + 2, none⟩ = some (.int .i64 x.s.step) ∧ W.cell? ⟨(ad.add (k * 5)).block, (ad.add (k * 5)).off + 3, none⟩ = some (.slice x.A x.s.vals.length x.c) ∧ W.cell? ⟨(ad.add (k * 5)).block, (ad.add (k * 5)).off + 4, none⟩ = some (.int .i64 x.s.cons)) := Lib.hid (fun W hW => ⟨(hW.cell (p := ad.add (k * 5)) (by rw [add_blk]; exact hbn)).trans hx0, (hW.cell (p := ⟨(ad.add (k * 5)).block, (ad.add (k * 5)).off + 1, none⟩) (by show (ad.add (k * 5)).block < _; rw [add_blk]; exact hbn)).trans hx1, (hW.cell (p := ⟨(ad.add (k * 5)).block, (ad.add (k * 5)).off + 2, none⟩) (by show (ad.add (k * 5)).block < _; rw [add_blk]; exact hbn)).trans hx2, (hW.cell (p := ⟨(ad.add (k * 5)).block, (ad.add (k * 5)).off + 3, none⟩) (by show (ad.add (k * 5)).block < _; rw [add_blk]; exact hbn)).trans hx3, (hW.cell (p := ⟨(ad.add (k * 5)).block, (ad.add (k * 5)).off + 4, none⟩) (by show (ad.add (k * 5)).block < _; rw [add_blk]; exact hbn)).trans hx4⟩)
        clear hx0 hx1 hx2 hx3 hx4 hg5 QI
        refine region_Q (by kernel_rfl) (by kernel_rfl) ?_
        refine q_val (v := ?qv1) (by rfl) (fun W hW => ?qh1) ?qr1
        case qh1 =>
            go_simp
            rfl
        simp only [Act.put, List.setIfInBounds_toArray, List.set_cons_zero, List.set_cons_succ]
        refine q_val (v := ?qv2) (by rfl) (fun W hW => ?qh2) ?qr2
        case qh2 =>
            go_simp
            rfl
        simp only [Act.put, List.setIfInBounds_toArray, List.set_cons_zero, List.set_cons_succ]
        refine q_val (v := ?qv3) (by rfl) (fun W hW => ?qh3) ?qr3
        case qh3 =>
            go_simp
            rfl
        simp only [Act.put, List.setIfInBounds_toArray, List.set_cons_zero, List.set_cons_succ]
        refine q_val (v := ?qv4) (by rfl) (fun W hW => ?qh4) ?qr4
        case qh4 =>
            go_simp
            rfl
        simp only [Act.put, List.setIfInBounds_toArray, List.set_cons_zero, List.set_cons_succ]
        refine q_val (v := ?qv5) (by rfl) (fun W hW => ?qh5) ?qr5
        case qh5 =>
            go_simp
            rfl
        simp only [Act.put, List.setIfInBounds_toArray, List.set_cons_zero, List.set_cons_succ]
        refine q_val (v := ?qv6) (by rfl) (fun W hW => ?qh6) ?qr6
        case qh6 =>
            obtain ⟨y0, y1, y2, y3, y4⟩ := HF.out W hW
            go_simp
            rfl
        simp only [Act.put, List.setIfInBounds_toArray, List.set_cons_zero, List.set_cons_succ]
        refine q_val (v := ?qv7) (by rfl) (fun W hW => ?qh7) ?qr7
        case qh7 =>
            go_simp
            rfl
        simp only [Act.put, List.setIfInBounds_toArray, List.set_cons_zero, List.set_cons_succ]
        refine q_val (v := ?qv8) (by rfl) (fun W hW => ?qh8) ?qr8
        case qh8 =>
            go_simp
            rfl
        simp only [Act.put, List.setIfInBounds_toArray, List.set_cons_zero, List.set_cons_succ]
        refine q_val (v := ?qv9) (by rfl) (fun W hW => ?qh9) ?qr9
        case qh9 =>
            go_simp
            rfl
        simp only [Act.put, List.setIfInBounds_toArray, List.set_cons_zero, List.set_cons_succ]
        refine q_val (v := ?qv10) (by rfl) (fun W hW => ?qh10) ?qr10
        case qh10 =>
            go_simp
            rfl
        simp only [Act.put, List.setIfInBounds_toArray, List.set_cons_zero, List.set_cons_succ]
        refine q_val (v := ?qv11) (by rfl) (fun W hW => ?qh11) ?qr11
        case qh11 =>
            go_simp
            rfl
        simp only [Act.put, List.setIfInBounds_toArray, List.set_cons_zero, List.set_cons_succ]
        refine q_val (v := ?qv12) (by rfl) (fun W hW => ?qh12) ?qr12
        case qh12 =>
            obtain ⟨y0, y1, y2, y3, y4⟩ := HF.out W hW
            go_simp
            rfl
        simp only [Act.put, List.setIfInBounds_toArray, List.set_cons_zero, List.set_cons_succ]
        refine q_call (v := .int .i64 (endS x.s)) (f := ?qf13) (args := ?qa13) (by rfl) (fun W hW => ?qh13) (fun W hW => ?qc13) ?qr13
        case qh13 =>
          go_simp
          constructor
          · rfl
          · rfl
        case qc13 => exact (rsend_any x.s x.A x.c W ((hvx.gr gwn).gr hW)).mono (fun e w' h => ⟨h.1, Gr.trans hW h.2⟩)
        simp only [Act.put, List.setIfInBounds_toArray, List.set_cons_zero, List.set_cons_succ]
        refine q_val (v := ?qv14) (by rfl) (fun W hW => ?qh14) ?qr14
        case qh14 =>
            go_simp
            rfl
        simp only [Act.put, List.setIfInBounds_toArray, List.set_cons_zero, List.set_cons_succ]
        refine q_val (v := ?qv15) (by rfl) (fun W hW => ?qh15) ?qr15
        case qh15 =>
            go_simp
            rfl
        simp only [Act.put, List.setIfInBounds_toArray, List.set_cons_zero, List.set_cons_succ]
        refine q_val (v := ?qv16) (by rfl) (fun W hW => ?qh16) ?qr16
        case qh16 =>
            go_simp
            rfl
        simp only [Act.put, List.setIfInBounds_toArray, List.set_cons_zero, List.set_cons_succ]
        refine wpQuiet_nil ?_
        intro w6 hg6
        have gw6 := Gr.trans gwn hg6
        clear HF hg6 gwn
        go_wp2
        go_roundw
        case rel => exact ⟨k + 1, min a x.s.start, max e (endS x.s), by omega, rfl, rfl, by go_num, by omega, by omega, by omega, by omega, gw6, HN⟩
        case measure => simp [intOf]; omega
    · have hkk : k = L.length := by omega
      subst hkk
      have HOKL : Hid (okL L = true) := Lib.hid (by have h := HI.out.2.2; rw [List.take_length] at h; exact h)
      have HML : Hid (minS S 4294967295 = a ∧ lastS S = e) := Lib.hid (by
        have h := HI.out
        rw [← HSL.out, List.take_length] at h
        exact ⟨h.1, h.2.1⟩)
      clear HI
      rcases Nat.eq_zero_or_pos L.length with h0 | h0
      · have hL : L = [] := List.eq_nil_of_length_eq_zero h0
        have hS0 : S = [] := List.eq_nil_of_length_eq_zero (by rw [HSL.out]; exact h0)
        subst hL hS0
        go_wp2
        exact bodyPost_ret (v := .tuple #[.slice none 0 0, .int .i64 0]) (by simp [results, Try.results28, go_sem]) rfl (RetJ.err (by rfl) (by rfl) hgr)
      have hlb : ((L.length : Int) == 0) = false := beq_eq_false_iff_ne.2 (by omega)
      have hlb' : (L.length == 0) = false := beq_eq_false_iff_ne.2 (by omega)
      have HALL2 : Hid (S.all isS = true) := Lib.hid (by rw [← HALL.out]; exact HOKL.out)
      have HNE : Hid (S ≠ []) := Lib.hid (fun e' => by have := HSL.out; rw [e'] at this; simp at this; omega)
      have HPRE := Lib.hid (fun h => join_pre HALL2.out HNE.out h)
      have HERR : Hid (errJ S = if stepS S = 0 then 13 else if 131072 < countJ S then 13 else 0) := Lib.hid (by unfold errJ; rw [if_pos HALL2.out, if_neg HNE.out])
      generalize hwo : wr = wo at *
      clear hwo
      go_wp2
      go_loopw [4, 8, 9] (fun t4 i _ wr => ∃ (k st : Nat), k ≤ L.length ∧ t4 = .int .i64 st ∧ i = .int .i64 k ∧ 0 < st ∧ (st : Int) ≤ 16777216 ∧ Gr w wr ∧ Hid (stepS (S.take k) = st)) (fun _ i _ _ => L.length - (intOf i).toNat)
      case atStart => exact ⟨0, 1, Nat.zero_le _, rfl, rfl, by decide, by decide, hgr, Lib.hid rfl⟩
      case round =>
        clear hgr
        obtain ⟨k, st, hk, rfl, rfl, hst0, hst, hgr, HI⟩ := hrel
        by_cases hlt : k < L.length
        · obtain ⟨x, hx⟩ : ∃ x, L[k] = x := ⟨_, rfl⟩
          obtain ⟨ad, rfl, hb, hx0, hx1, hx2, hx3, hx4⟩ := (hr.gr hgr).at hlt
          have hsk := HSK.out k hlt (by have := HSL.out; omega)
          rw [hx] at hx0 hx1 hx2 hx3 hx4 hsk
          have hox : Ok x.s := (isS_iff _).1 (by rw [← hsk]; exact List.all_eq_true.1 HALL2.out _ (List.getElem_mem _))
          have f2 := hox.p0; have f3 := hox.p1
          obtain ⟨b, hbv⟩ : ∃ b : Nat, x.s.step = b := ⟨x.s.step.toNat, by omega⟩
          have hb1 : 0 < b := by omega
          have hbI : (b : Int) ≤ 1099511627776 := by omega
          have hnx : stepS (S.take (k + 1)) = comN st b := by
            rw [step_next (by have := HSL.out; omega), hsk, HI.out]
            unfold comS
            rw [if_neg (by omega), hbv, Int.toNat_natCast]
          rw [hbv] at hx2
          obtain ⟨rc1, rc2⟩ := ref_com hst0 hb1
          have hgp : 0 < Nat.gcd b st := Nat.gcd_pos_of_pos_left _ hb1
          obtain ⟨g, hgg⟩ : ∃ g, Nat.gcd b st = g := ⟨_, rfl⟩
          have HGC : Hid (∀ w, Calls Try.prog 47 #[.int .i64 b, .int .i64 st] w fun e w' => e = .returned (.int .i64 (g : Nat)) ∧ Gr w w') := Lib.hid (fun w => by rw [← hgg]; exact gcd_any b st w hbI (by omega))
          rw [hgg] at hgp
          obtain ⟨u, hu⟩ : ∃ u, b / Nat.gcd b st = u := ⟨_, rfl⟩
          obtain ⟨v, hv'⟩ : ∃ v, 16777216 / st = v := ⟨_, rfl⟩
          have hcl := comN_le (a := st) hb1
          rw [hu, hv'] at rc1 rc2
          have d1 : Int.tdiv (b : Int) (g : Nat) = (u : Int) := by rw [← hu, ← hgg, Int.ofNat_tdiv]
          have d2 : Int.tdiv 16777216 (st : Int) = (v : Int) := by rw [← hv']; exact (Int.ofNat_tdiv 16777216 st).symm
          have hul : u ≤ b := by rw [← hu]; exact Nat.div_le_self _ _
          have huI : (u : Int) ≤ 1099511627776 := by omega
          have hvl : v ≤ 16777216 := by rw [← hv']; exact Nat.div_le_self _ _
          have hvI : (v : Int) ≤ 16777216 := by omega
          have hgb : ((g : Int) == 0) = false := beq_eq_false_iff_ne.2 (by omega)
          have hgb' : (g == 0) = false := beq_eq_false_iff_ne.2 (by omega)
          have hgI : (g : Int) ≠ 0 := by omega
          have hg0 : g ≠ 0 := by omega
          have hsb : ((st : Int) == 0) = false := beq_eq_false_iff_ne.2 (by omega)
          have hsb' : (st == 0) = false := beq_eq_false_iff_ne.2 (by omega)
          have hsI : (st : Int) ≠ 0 := by omega
          have HNX := Lib.hid hnx
          have HR := Lib.hid (And.intro rc1 rc2)
          have hbn : ad.block < wr.heap.size := hb
          have hw1 : IntKind.i64.wrap (u : Int) = u := IntWalk.i64_in _ (by omega)
          clear hx hsk hox hbv hnx rc1 rc2 hu hv' hgg
          go_wp2
          have HF : Hid (∀ W, Gr wr W → W.cell? (ad.add (k * 5)) = some (.string x.s.name) ∧ W.cell? ⟨(ad.add (k * 5)).block, (ad.add (k * 5)).off + 1, none⟩ = some (.int .i64 x.s.start) ∧ W.cell? ⟨(ad.add (k * 5)).block, (ad.add (k * 5)).off + 2, none⟩ = some (.int .i64 (b : Int)) ∧ W.cell? ⟨(ad.add (k * 5)).block, (ad.add (k * 5)).off + 3, none⟩ = some (.slice x.A x.s.vals.length x.c) ∧ W.cell? ⟨(ad.add (k * 5)).block, (ad.add (k * 5)).off + 4, none⟩ = some (.int .i64 x.s.cons)) := Lib.hid (fun W hW => ⟨(hW.cell (p := ad.add (k * 5)) (by rw [add_blk]; exact hbn)).trans hx0, (hW.cell (p := ⟨(ad.add (k * 5)).block, (ad.add (k * 5)).off + 1, none⟩) (by show (ad.add (k * 5)).block < _; rw [add_blk]; exact hbn)).trans hx1, (hW.cell (p := ⟨(ad.add (k * 5)).block, (ad.add (k * 5)).off + 2, none⟩) (by show (ad.add (k * 5)).block < _; rw [add_blk]; exact hbn)).trans hx2, (hW.cell (p := ⟨(ad.add (k * 5)).block, (ad.add (k * 5)).off + 3, none⟩) (by show (ad.add (k * 5)).block < _; rw [add_blk]; exact hbn)).trans hx3, (hW.cell (p := ⟨(ad.add (k * 5)).block, (ad.add (k * 5)).off + 4, none⟩) (by show (ad.add (k * 5)).block < _; rw [add_blk]; exact hbn)).trans hx4⟩)
          clear hx0 hx1 hx2 hx3 hx4
          refine region_Q (by kernel_rfl) (by kernel_rfl) ?_
          refine q_val (v := ?qv17) (by rfl) (fun W hW => ?qh17) ?qr17
          case qh17 =>
              go_simp
              rfl
          simp only [Act.put, List.setIfInBounds_toArray, List.set_cons_zero, List.set_cons_succ]
          refine q_val (v := ?qv18) (by rfl) (fun W hW => ?qh18) ?qr18
          case qh18 =>
              go_simp
              rfl
          simp only [Act.put, List.setIfInBounds_toArray, List.set_cons_zero, List.set_cons_succ]
          refine q_val (v := ?qv19) (by rfl) (fun W hW => ?qh19) ?qr19
          case qh19 =>
              go_simp
              rfl
          simp only [Act.put, List.setIfInBounds_toArray, List.set_cons_zero, List.set_cons_succ]
          refine q_val (v := ?qv20) (by rfl) (fun W hW => ?qh20) ?qr20
          case qh20 =>
              go_simp
              rfl
          simp only [Act.put, List.setIfInBounds_toArray, List.set_cons_zero, List.set_cons_succ]
          refine q_val (v := ?qv21) (by rfl) (fun W hW => ?qh21) ?qr21
          case qh21 =>
              obtain ⟨y0, y1, y2, y3, y4⟩ := HF.out W hW
              go_simp
              rfl
          simp only [Act.put, List.setIfInBounds_toArray, List.set_cons_zero, List.set_cons_succ]
          refine q_val (v := ?qv22) (by rfl) (fun W hW => ?qh22) ?qr22
          case qh22 =>
              go_simp
              rfl
          simp only [Act.put, List.setIfInBounds_toArray, List.set_cons_zero, List.set_cons_succ]
          refine q_val (v := ?qv23) (by rfl) (fun W hW => ?qh23) ?qr23
          case qh23 =>
              go_simp
              rfl
          simp only [Act.put, List.setIfInBounds_toArray, List.set_cons_zero, List.set_cons_succ]
          refine q_val (v := ?qv24) (by rfl) (fun W hW => ?qh24) ?qr24
          case qh24 =>
              go_simp
              rfl
          simp only [Act.put, List.setIfInBounds_toArray, List.set_cons_zero, List.set_cons_succ]
          refine q_val (v := ?qv25) (by rfl) (fun W hW => ?qh25) ?qr25
          case qh25 =>
              go_simp
              rfl
          simp only [Act.put, List.setIfInBounds_toArray, List.set_cons_zero, List.set_cons_succ]
          refine q_val (v := ?qv26) (by rfl) (fun W hW => ?qh26) ?qr26
          case qh26 =>
              obtain ⟨y0, y1, y2, y3, y4⟩ := HF.out W hW
              go_simp
              rfl
          simp only [Act.put, List.setIfInBounds_toArray, List.set_cons_zero, List.set_cons_succ]
          refine q_val (v := ?qv27) (by rfl) (fun W hW => ?qh27) ?qr27
          case qh27 =>
              go_simp
              rfl
          simp only [Act.put, List.setIfInBounds_toArray, List.set_cons_zero, List.set_cons_succ]
          refine q_call (v := .int .i64 (g : Nat)) (f := ?qf28) (args := ?qa28) (by rfl) (fun W hW => ?qh28) (fun W hW => ?qc28) ?qr28
          case qh28 =>
            go_simp
            constructor
            · rfl
            · rfl
          case qc28 => exact (HGC.out W).mono (fun e w' h => ⟨h.1, Gr.trans hW h.2⟩)
          simp only [Act.put, List.setIfInBounds_toArray, List.set_cons_zero, List.set_cons_succ]
          refine q_val (v := ?qv29) (by rfl) (fun W hW => ?qh29) ?qr29
          case qh29 =>
              go_simp
              rfl
          simp only [Act.put, List.setIfInBounds_toArray, List.set_cons_zero, List.set_cons_succ]
          refine q_val (v := ?qv30) (by rfl) (fun W hW => ?qh30) ?qr30
          case qh30 =>
              go_simp
              rfl
          simp only [Act.put, List.setIfInBounds_toArray, List.set_cons_zero, List.set_cons_succ]
          refine wpQuiet_nil ?_
          intro w6 hg6
          have gw6 := Gr.trans hgr hg6
          clear HF hg6 hgr d1 hgb hgb' hgI hg0
          by_cases hvu : (v : Int) < (u : Int)
          · have HE : Hid (errJ S = 13) := Lib.hid (by rw [HERR.out, if_pos (step_stays (by rw [HNX.out]; exact HR.out.1 (by omega)))])
            go_wp2
            exact bodyPost_ret (v := .tuple #[.slice none 0 0, .int .i64 13]) (by simp [results, Try.results28, go_sem]) rfl (RetJ.err HE.out (join_no (by rw [HE.out]; decide)) gw6)
          · obtain ⟨r1, r2⟩ := HR.out.2 (by omega)
            have hm1 : (st : Int) * (u : Int) ≤ 16777216 := by rw [← Int.natCast_mul, ← r1]; omega
            have hm0 : 0 ≤ (st : Int) * (u : Int) := by rw [← Int.natCast_mul]; omega
            have HN2 : Hid (stepS (S.take (k + 1)) = st * u) := Lib.hid (by rw [HNX.out, r1])
            clear r1
            go_wp2
            go_roundw
            case rel => exact ⟨k + 1, st * u, by omega, by rw [Int.natCast_mul], by go_num, r2, by rw [Int.natCast_mul]; exact hm1, gw6, HN2⟩
            case measure => simp [intOf]; omega
        · have hkk : k = L.length := by omega
          subst hkk
          have HI2 : Hid (stepS S = st ∧ minS S 4294967295 = a ∧ lastS S = e) := Lib.hid (by
            have h := HI.out
            rw [← HSL.out, List.take_length] at h
            exact ⟨h, HML.out⟩)
          clear HI
          have hst00 : stepS S ≠ 0 := by rw [HI2.out.1]; omega
          obtain ⟨p1, p2, p3, p4, p5, p6⟩ := HPRE.out hst00
          rw [HI2.out.1] at p1 p2
          obtain ⟨sj, hsj⟩ : ∃ sj, startJ S = sj := ⟨_, rfl⟩
          have hsjv : sj = a - a % (st : Int) := by rw [← hsj]; unfold startJ; rw [HI2.out.1, HI2.out.2.1]
          obtain ⟨r, hr0⟩ : ∃ r, a % (st : Int) = r := ⟨_, rfl⟩
          have htm : Int.tmod a (st : Int) = r := by rw [Int.tmod_eq_emod_of_nonneg ha0, hr0]
          have hrn := Int.emod_nonneg a (b := (st : Int)) (by omega)
          rw [hr0] at hrn hsjv
          rw [hsj] at p3 p4 p5
          rw [HI2.out.2.2] at p5
          have hsub : a - r = sj := hsjv.symm
          have HSJ := Lib.hid hsj
          obtain ⟨n, hn⟩ : ∃ n, upI (e - sj) (st : Int) = n := ⟨_, rfl⟩
          have hnt : Int.tdiv (e - sj + (st : Int) - 1) (st : Int) = n := by rw [← hn]; unfold upI; rw [Int.tdiv_eq_ediv_of_nonneg (by omega)]
          have HCN : Hid (countJ S = n) := Lib.hid (by unfold countJ; rw [HI2.out.1, HI2.out.2.2, HSJ.out, hn])
          obtain ⟨n0, n1, n2⟩ := upI_facts p5 p1
          have n3 : n ≤ 288230376151711744 := by
            rw [← hn]; unfold upI
            have := Int.ediv_le_self (a := e - sj + (st : Int) - 1) (st : Int) (by omega)
            omega
          rw [hn] at n0
          have hstI : (st : Int) ≠ 0 := by omega
          have hstb : ((st : Int) == 0) = false := beq_eq_false_iff_ne.2 (by omega)
          have hstb' : (st == 0) = false := beq_eq_false_iff_ne.2 (by omega)
          have hrI : r ≤ a := by omega
          clear hsj hsjv hr0 hn hst00 n1 n2
          by_cases hbig : (131072 : Int) < n
          case pos =>
            have HE : Hid (errJ S = 13) := Lib.hid (by rw [HERR.out, HI2.out.1, if_neg (by omega), HCN.out, if_pos hbig])
            go_wp2
            exact bodyPost_ret (v := .tuple #[.slice none 0 0, .int .i64 13]) (by simp [results, Try.results28, go_sem]) rfl (RetJ.err HE.out (join_no (by rw [HE.out]; decide)) hgr)
          have HE : Hid (errJ S = 0) := Lib.hid (by rw [HERR.out, HI2.out.1, if_neg (by omega), HCN.out, if_neg hbig])
          generalize hwo2 : wr = wo2 at *
          clear hwo2
          go_wp2
          go_loopw [11, 12] (fun v i wr => ∃ (k : Nat) (M : List Sq), k ≤ L.length ∧ i = .int .i64 k ∧ Gr w wr ∧ wr.ownsRow w.heap.size 24 5 v k (scells M) ∧ M.length = k ∧ Lie wr M ∧ Apart v.ownBlock M ∧ Hid (M.map Sq.s = (S.take k).map fun s => fitS s sj (st : Int) n)) (fun _ i _ => L.length - (intOf i).toNat)
          case atStart => exact ⟨0, [], Nat.zero_le _, rfl, hgr, World.ownsRow_nil _ _ _ _, rfl, fun x hx => absurd hx (by simp), fun x hx => absurd hx (by simp), Lib.hid rfl⟩
          case round =>
            clear hgr
            obtain ⟨k, M, hk, rfl, hgr, hown, hMl, hLie, hAp, HM⟩ := hrel
            by_cases hlt : k < L.length
            · obtain ⟨x, hx⟩ : ∃ x, L[k] = x := ⟨_, rfl⟩
              obtain ⟨ad, rfl, hb, hx0, hx1, hx2, hx3, hx4⟩ := (hr.gr hgr).at hlt
              have hvx := hv _ (List.getElem_mem hlt)
              have hlx := HLE.out _ (List.getElem_mem hlt)
              have hsk := HSK.out k hlt (by have := HSL.out; omega)
              rw [hx] at hx0 hx1 hx2 hx3 hx4 hvx hlx hsk
              obtain ⟨T, hT⟩ : ∃ T, fitS x.s sj (st : Int) n = T := ⟨_, rfl⟩
              have HFT : Hid (∀ w, Rv w x.A x.s.vals → Calls Try.prog 14 #[.agg #[.string x.s.name, .int .i64 x.s.start, .int .i64 x.s.step, .slice x.A x.s.vals.length x.c, .int .i64 x.s.cons], .int .i64 sj, .int .i64 st, .int .i64 n] w (RetS T w)) := Lib.hid (fun w hr => by rw [← hT]; exact rfit_any x.s x.A x.c sj (st : Int) n w hlx hr)
              have HM2 : Hid (∀ y : Sq, y.s = T → (M ++ [y]).map Sq.s = (S.take (k + 1)).map fun s => fitS s sj (st : Int) n) := Lib.hid (fun y hy => by
                rw [List.take_succ_eq_append_getElem (by have := HSL.out; omega), List.map_append, List.map_append, HM.out, hsk]
                simp [hy, hT])
              clear hT hsk hx hlx HM
              go_wp2_with fail
              refine (HFT.out _ (hvx.gr hgr)).mono ?_; rintro e' w5 ⟨A5, c5, rfl, hr5, hg5, hnew⟩
              have hbox := hg5
              have hown5 := own_gr hown hbox
              have gw5 := Gr.trans hgr hbox
              have hLie5 := hLie.gr hbox
              have hrx := Rl.new (W := w5) rfl 24 [⟨T, A5, c5⟩]
              have hv0 := hown5.alloc (.cells (scells [⟨T, A5, c5⟩]).toArray 24)
              have hvl := hown5.lt
              have z5 := gw5.size
              have HNW := Lib.hid (fun (ad : Addr) (h : A5 = some ad) => new_apart hown (ad := ad) (by have h1 := hnew ad h; omega))
              clear hnew hx0 hx1 hx2 hx3 hx4
              go_wp2_with
                (at_builtin
                 refine wpList_append_rd rfl (.tmp 89) (.tmp 98) 38 rfl w.heap.size 24 i0 _ 5 64 Try.underlying38 hi0 hz0 hz1 hz2 rfl (by decide) _ k _ rfl hv0 (some ⟨w5.heap.size, 0, none⟩) 1 _ (scells [⟨T, A5, c5⟩]) rfl hrx (scells_one _) (by unfold maxLen; omega) (by omega) (by simp; omega) ?_
                 intro v' w7 hown7 hgr7 hat7)
              have hg7 : Gr w w7 := Gr.grown (Gr.alloc gw5 _) hgr7 (fun j hj => (hvl j hj).1)
              have hLie7 : Lie w7 (M ++ [⟨T, A5, c5⟩]) := fun y hy => by
                rcases List.mem_append.1 hy with hy | hy
                · exact Rv.grown ((hLie5 y hy).gr (Gr.alloc (Gr.refl w5) _)) hgr7 (fun hn ad h => hAp y hy hn ad h)
                · rw [List.mem_singleton.1 hy]
                  exact Rv.grown (hr5.gr (Gr.alloc (Gr.refl w5) _)) hgr7 (fun _ ad h => HNW.out ad h)
              have hAp7 : Apart v'.ownBlock (M ++ [⟨T, A5, c5⟩]) := fun y hy hn ad h => by
                rcases hat7 with e7 | e7
                · rw [e7]
                  rcases List.mem_append.1 hy with hy | hy
                  · exact hAp y hy hn ad h
                  · rw [List.mem_singleton.1 hy] at h; exact HNW.out ad h
                · rw [e7]
                  intro e8
                  injection e8 with e8
                  simp at e8
                  rcases List.mem_append.1 hy with hy | hy
                  · have := (hLie5 y hy).blk hn h; omega
                  · rw [List.mem_singleton.1 hy] at h hn
                    have := hr5.blk hn h; omega
              have hown8 : w7.ownsRow w.heap.size 24 5 v' (k + 1) (scells (M ++ [⟨T, A5, c5⟩])) := by rw [scells_append]; exact hown7
              have HM3 := Lib.hid (HM2.out ⟨T, A5, c5⟩ rfl)
              clear hv0 hvl hgr7 hat7 hrx hown5 hown7 hown hLie hLie5 hAp hr5 hbox HM2
              go_roundw
              case rel => exact ⟨k + 1, M ++ [⟨T, A5, c5⟩], by omega, by go_num, hg7, hown8, by simp [hMl], hLie7, hAp7, HM3⟩
              case measure => simp [intOf]; omega
            · have hkk : k = L.length := by omega
              subst hkk
              obtain ⟨A', c', hvv⟩ := own_form hown
              subst hvv
              have hRd := Rd.own hown
              have HJ : Hid (M.map Sq.s = joinS S) := Lib.hid (by
                have h := HM.out
                rw [← HSL.out, List.take_length] at h
                unfold joinS
                rw [if_pos HE.out, HSJ.out, HI2.out.1, HCN.out]
                exact h)
              have HE2 : Hid (Ending.returned (.tuple #[.slice A' L.length c', .int .i64 0]) = Ending.returned (.tuple #[.slice A' M.length c', .int .i64 (errJ S)])) := Lib.hid (by rw [HE.out, hMl])
              have hRl : Rl wr A' M := by unfold Rl; rw [hMl]; exact hRd
              clear hMl HM hAp hown hRd
              go_wp2
              exact bodyPost_ret (v := .tuple #[.slice A' L.length c', .int .i64 0]) (by simp [results, Try.results28, go_sem]) rfl ⟨A', M, c', HE2.out, HJ.out, hRl, hLie, hgr⟩
end Go.Proofs.Ytoikpkgogncdhaa
