/- Contracts of what Join leans on: whether any series may not be; the least common multiple; the greatest common divisor. -/
import Derived.Test.YtoikpkgogncdhaaSrIs
import Derived.Test.YtoikpkgogncdhaaSrHeavy
import Derived.Test.YtoikpkgogncdhaaSrJoinP
import Derived.BigQuiet
namespace Go.Proofs.Ytoikpkgogncdhaa
set_option linter.unusedVariables false
set_option linter.unusedSimpArgs false
open Go.RowKit

/-- all the values of the series lie. -/
def Lie (w : World) (L : List Sq) : Prop := ∀ x ∈ L, Rv w x.A x.s.vals
theorem Lie.gr {w w' : World} {L : List Sq} (h : Lie w L) (g : Gr w w') : Lie w' L := fun x hx => (h x hx).gr g
def okL (L : List Sq) : Bool := L.all fun x => isS x.s
theorem okL_take {L : List Sq} {k : Nat} (h : k < L.length) : okL (L.take (k + 1)) = (okL (L.take k) && isS L[k].s) := by
  unfold okL; rw [List.take_succ_eq_append_getElem h, List.all_append]; simp
theorem okL_no {L : List Sq} {k : Nat} (h : k < L.length) (hb : isS L[k].s = false) : okL L = false := by
  cases hq : okL L
  · rfl
  · unfold okL at hq; rw [List.all_eq_true.1 hq _ (List.getElem_mem h)] at hb; cases hb

set_option maxRecDepth 100000 in
set_option maxHeartbeats 1600000 in
theorem jf_any (x : Sq) (w : World) (hr : Rv w x.A x.s.vals) : Calls Try.prog 49 #[.agg #[.string x.s.name, .int .i64 x.s.start, .int .i64 x.s.step, .slice x.A x.s.vals.length x.c, .int .i64 x.s.cons]] w fun e w' => e = .returned (.bool (!isS x.s)) ∧ Gr w w' := by
  have Q := fun w hr => sis_any x.s x.A x.c w hr
  cases h : isS x.s
  all_goals
    simp only [h] at Q
    go_enter Try.func49, Try.ntmps49
    go_wp2_with fail
    refine (Q _ ?hr).mono ?_
    case hr => exact hr.gr (by repeat (first | exact Gr.refl _ | refine Gr.alloc ?_ _ | refine Gr.drew ?_ | refine Gr.setCell ?_ (by first | (simp; done) | (simp; omega) | omega) _ | refine Gr.trans ?_ (by assumption)))
    rintro e w1 ⟨rfl, hg⟩
    go_wp2
    go_ret
    exact ⟨rfl, (by repeat (first | exact Gr.refl _ | refine Gr.alloc ?_ _ | refine Gr.drew ?_ | refine Gr.setCell ?_ (by first | (simp; done) | (simp; omega) | omega) _ | refine Gr.trans ?_ (by assumption)))⟩

set_option maxRecDepth 100000 in
set_option maxHeartbeats 1600000 in
theorem idxs_any (A : Option Addr) (c : Nat) (L : List Sq) (w : World) (hl : (L.length : Int) ≤ 131072) (hr : Rl w A L) (hv : Lie w L) :
    Calls Try.prog 64 #[.slice A L.length c, .func (.func 49) #[] #[]] w fun e w' => (∃ k : Int, e = .returned (.int .i64 k) ∧ (0 ≤ k ↔ okL L = false)) ∧ Gr w w' := by
  go_enter Try.func64, Try.ntmps64
  go_wp2
  go_loopw [5, 8] (fun _ i wr => ∃ k : Nat, k ≤ L.length ∧ i = .int .i64 k ∧ Gr w wr ∧ okL (L.take k) = true) (fun _ i _ => L.length - (intOf i).toNat)
  case atStart => exact ⟨0, Nat.zero_le _, rfl, Gr.refl _, rfl⟩
  case round =>
    obtain ⟨k, hk, rfl, hgr, ha⟩ := hrel
    by_cases hlt : k < L.length
    · obtain ⟨ad, rfl, hb, hx0, hx1, hx2, hx3, hx4⟩ := (hr.gr hgr).at hlt
      have Ht := okL_take hlt
      rw [ha] at Ht
      have Ht := Lib.hid Ht
      have Hn := Lib.hid (okL_no hlt)
      have hvx := hv _ (List.getElem_mem hlt)
      have Q := fun (w : World) (hr : Rv w (L[k]'hlt).A (L[k]'hlt).s.vals) => jf_any (L[k]'hlt) w hr
      clear ha
      cases hx : isS L[k].s
      · simp only [hx, Bool.not_false] at Q
        go_wp2_with fail
        refine (Q _ (hvx.gr hgr)).mono ?_; rintro e w1 ⟨rfl, hg⟩
        go_wp2
        go_ret
        exact ⟨⟨_, rfl, by simp [Hn.out hx]⟩, (by repeat (first | exact Gr.refl _ | refine Gr.alloc ?_ _ | refine Gr.drew ?_ | refine Gr.setCell ?_ (by first | (simp; done) | (simp; omega) | omega) _ | refine Gr.trans ?_ (by assumption)))⟩
      · simp only [hx, Bool.not_true] at Q
        go_wp2_with fail
        refine (Q _ (hvx.gr hgr)).mono ?_; rintro e w1 ⟨rfl, hg⟩
        go_wp2
        go_roundw
        case rel => exact ⟨k + 1, by omega, by go_num, (by repeat (first | exact Gr.refl _ | refine Gr.alloc ?_ _ | refine Gr.drew ?_ | refine Gr.setCell ?_ (by first | (simp; done) | (simp; omega) | omega) _ | refine Gr.trans ?_ (by assumption))), by rw [Ht.out, hx]; rfl⟩
        case measure => simp [intOf]; omega
    · have hkk : k = L.length := by omega
      subst hkk
      rw [List.take_length] at ha
      have Ha := Lib.hid ha; clear ha
      go_wp2
      go_ret
      exact ⟨⟨_, rfl, by rw [Ha.out]; simp⟩, (by repeat (first | exact Gr.refl _ | refine Gr.alloc ?_ _ | refine Gr.drew ?_ | refine Gr.setCell ?_ (by first | (simp; done) | (simp; omega) | omega) _ | refine Gr.trans ?_ (by assumption)))⟩

set_option maxRecDepth 100000 in
set_option maxHeartbeats 1600000 in
theorem cons_any (A : Option Addr) (c : Nat) (L : List Sq) (w : World) (hl : (L.length : Int) ≤ 131072) (hr : Rl w A L) (hv : Lie w L) :
    Calls Try.prog 48 #[.slice A L.length c, .func (.func 49) #[] #[]] w fun e w' => e = .returned (.bool (!okL L)) ∧ Gr w w' := by
  go_enter Try.func48, Try.ntmps48
  go_wp2_with fail
  refine (idxs_any A c L _ hl hr hv).mono ?_; rintro e w1 ⟨⟨k, rfl, hk⟩, hg⟩
  have Hk := Lib.hid hk; clear hk
  by_cases h0 : 0 ≤ k
  · go_wp2
    go_ret
    refine ⟨?_, hg⟩
    rw [Hk.out.1 h0]
    simp [h0]
  · go_wp2
    go_ret
    refine ⟨?_, hg⟩
    have : okL L = true := by
      cases hq : okL L
      · exact absurd (Hk.out.2 hq) (by omega)
      · rfl
    rw [this]
    simp [h0]

set_option maxRecDepth 100000 in
set_option maxHeartbeats 1600000 in
theorem gcd_any (a b : Nat) (w : World) (ha : (a : Int) ≤ 1099511627776) (hb : (b : Int) ≤ 1099511627776) :
    Calls Try.prog 47 #[.int .i64 a, .int .i64 b] w fun e w' => e = .returned (.int .i64 (Nat.gcd a b : Nat)) ∧ Gr w w' := by
  go_enter Try.func47, Try.ntmps47
  go_wp2
  go_loopw [0, 1] (fun x y wr => ∃ (p q : Nat), x = .int .i64 p ∧ y = .int .i64 q ∧ (p : Int) ≤ 1099511627776 ∧ (q : Int) ≤ 1099511627776 ∧ Gr w wr ∧ Hid (Nat.gcd p q = Nat.gcd a b)) (fun _ y _ => (intOf y).toNat)
  case atStart => exact ⟨a, b, rfl, rfl, ha, hb, Gr.refl _, Lib.hid rfl⟩
  case round =>
    obtain ⟨p, q, rfl, rfl, hp, hq, hgr, HG⟩ := hrel
    rcases Nat.eq_zero_or_pos q with h0 | h0
    · subst h0
      have HG2 : Hid (p = Nat.gcd a b) := Lib.hid (by rw [← HG.out, Nat.gcd_zero_right])
      go_wp2
      go_ret
      refine ⟨?_, hgr⟩
      show Ending.returned (.int .i64 (p : Int)) = _
      rw [← HG2.out]
    · have hq0 : (0 : Int) < q := by omega
      have hqn : (q : Int) ≠ 0 := by omega
      have hqb : ((q : Int) == 0) = false := by simp; omega
      have hqn' : (q == 0) = false := by simp; omega
      have hlt : p % q < q := Nat.mod_lt _ h0
      obtain ⟨r, hr⟩ : ∃ r, p % q = r := ⟨_, rfl⟩
      have hm : Int.tmod (p : Int) (q : Int) = (r : Int) := by rw [← hr, Int.ofNat_tmod]
      have HG2 : Hid (Nat.gcd q r = Nat.gcd a b) := Lib.hid (by rw [← HG.out, ← hr, Nat.gcd_comm p q, Nat.gcd_rec q p, Nat.gcd_comm])
      rw [hr] at hlt
      clear hr
      go_wp2
      go_quiet (fail)
      go_wp2
      go_roundw
      case rel => exact ⟨q, r, rfl, rfl, hq, by omega, (by repeat (first | exact Gr.refl _ | assumption | refine Gr.drewN ?_ _ | refine Gr.alloc ?_ _ | refine Gr.drew ?_ | refine Gr.setCell ?_ (by first | (simp; done) | (simp; omega) | omega) _ | refine Gr.trans ?_ (by assumption))), HG2⟩
      case measure => simp [intOf]; omega

set_option maxRecDepth 100000 in
set_option maxHeartbeats 1600000 in
theorem common_any (a b : Nat) (w : World) (ha0 : 0 < a) (hb0 : 0 < b) (ha : (a : Int) ≤ 16777216) (hb : (b : Int) ≤ 1099511627776) :
    Calls Try.prog 50 #[.int .i64 a, .int .i64 b] w fun e w' => e = .returned (.int .i64 (comN a b : Nat)) ∧ Gr w w' := by
  go_enter Try.func50, Try.ntmps50
  go_wp2
  go_loopw [5, 6] (fun x y wr => ∃ (p q : Nat), x = .int .i64 p ∧ y = .int .i64 q ∧ (p : Int) ≤ 1099511627776 ∧ (q : Int) ≤ 1099511627776 ∧ Gr w wr ∧ Hid (Nat.gcd p q = Nat.gcd a b)) (fun _ y _ => (intOf y).toNat)
  case atStart => exact ⟨a, b, rfl, rfl, by omega, hb, Gr.refl _, Lib.hid rfl⟩
  case round =>
    obtain ⟨p, q, rfl, rfl, hp, hq, hgr, HG⟩ := hrel
    rcases Nat.eq_zero_or_pos q with h0 | h0
    · subst h0
      have hpg : p = Nat.gcd a b := by rw [← HG.out, Nat.gcd_zero_right]
      have hp0 : 0 < p := by rw [hpg]; exact Nat.gcd_pos_of_pos_left _ ha0
      have hpI : (p : Int) ≠ 0 := by omega
      have hpb : ((p : Int) == 0) = false := by simp; omega
      have hpn : (p == 0) = false := by simp; omega
      have hbI : (b : Int) ≠ 0 := by omega
      have hbb : ((b : Int) == 0) = false := by simp; omega
      have hbn : (b == 0) = false := by simp; omega
      obtain ⟨u, hu⟩ : ∃ u, a / p = u := ⟨_, rfl⟩
      obtain ⟨v, hv⟩ : ∃ v, 16777216 / b = v := ⟨_, rfl⟩
      have d1 : Int.tdiv (a : Int) (p : Int) = (u : Int) := by rw [← hu, Int.ofNat_tdiv]
      have d2 : Int.tdiv 16777216 (b : Int) = (v : Int) := by rw [← hv]; exact (Int.ofNat_tdiv 16777216 b).symm
      have hcm : comN a b = if v < u then 0 else u * b := by unfold comN; rw [← hpg, hu, hv]
      have hle : comN a b ≤ 16777216 := comN_le hb0
      have hul : u ≤ a := by rw [← hu]; exact Nat.div_le_self _ _
      have hvl : v ≤ 16777216 := by rw [← hv]; exact Nat.div_le_self _ _
      have huI : (u : Int) ≤ 16777216 := by omega
      have hvI : (v : Int) ≤ 16777216 := by omega
      clear hu hv hpg
      by_cases hvu : (v : Int) < (u : Int)
      · rw [if_pos (by omega)] at hcm
        have HC := Lib.hid hcm; clear hcm hle
        go_wp2
        go_quiet (fail)
        go_wp2
        go_ret
        exact ⟨by rw [HC.out]; rfl, (by repeat (first | exact Gr.refl _ | assumption | refine Gr.drewN ?_ _ | refine Gr.alloc ?_ _ | refine Gr.drew ?_ | refine Gr.setCell ?_ (by first | (simp; done) | (simp; omega) | omega) _ | refine Gr.trans ?_ (by assumption)))⟩
      · rw [if_neg (by omega)] at hcm
        rw [hcm] at hle
        have hub : (u : Int) * (b : Int) ≤ 16777216 := by rw [← Int.natCast_mul]; omega
        have hub0 : 0 ≤ (u : Int) * (b : Int) := by rw [← Int.natCast_mul]; omega
        have HC := Lib.hid hcm; clear hcm hle
        go_wp2
        go_quiet (fail)
        go_wp2
        go_ret
        refine ⟨?_, (by repeat (first | exact Gr.refl _ | assumption | refine Gr.drewN ?_ _ | refine Gr.alloc ?_ _ | refine Gr.drew ?_ | refine Gr.setCell ?_ (by first | (simp; done) | (simp; omega) | omega) _ | refine Gr.trans ?_ (by assumption)))⟩
        show Ending.returned (.int .i64 ((u : Int) * (b : Int))) = _
        rw [HC.out, Int.natCast_mul]
    · have hq0 : (0 : Int) < q := by omega
      have hqn : (q : Int) ≠ 0 := by omega
      have hqb : ((q : Int) == 0) = false := by simp; omega
      have hqb' : ((q : Int) != 0) = true := by simp; omega
      have hqn' : (q == 0) = false := by simp; omega
      have hlt : p % q < q := Nat.mod_lt _ h0
      obtain ⟨r, hr⟩ : ∃ r, p % q = r := ⟨_, rfl⟩
      have hm : Int.tmod (p : Int) (q : Int) = (r : Int) := by rw [← hr, Int.ofNat_tmod]
      have HG2 : Hid (Nat.gcd q r = Nat.gcd a b) := Lib.hid (by rw [← HG.out, ← hr, Nat.gcd_comm p q, Nat.gcd_rec q p, Nat.gcd_comm])
      rw [hr] at hlt
      clear hr
      go_wp2
      go_quiet (fail)
      go_wp2
      go_roundw
      case rel => exact ⟨q, r, rfl, rfl, hq, by omega, (by repeat (first | exact Gr.refl _ | assumption | refine Gr.drewN ?_ _ | refine Gr.alloc ?_ _ | refine Gr.drew ?_ | refine Gr.setCell ?_ (by first | (simp; done) | (simp; omega) | omega) _ | refine Gr.trans ?_ (by assumption))), HG2⟩
      case measure => simp [intOf]; omega
end Go.Proofs.Ytoikpkgogncdhaa
