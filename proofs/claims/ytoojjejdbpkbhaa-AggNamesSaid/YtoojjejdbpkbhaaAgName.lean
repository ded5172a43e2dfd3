/- The contracts of Name and Kind, of both sides, and the law AggNames (chapter 6). -/
import Derived.Test.YtoojjejdbpkbhaaAgLaw
import Derived.Outline
namespace Go.Proofs.Ytoojjejdbpkbhaa
open Go.RowKit

theorem tl_of {a b : ByteArray} (h : a.toList = b.toList) : a = b := by
  rw [ByteArray.toList_eq, ByteArray.toList_eq] at h
  exact ByteArray.ext (Array.toList_inj.1 h)
theorem tl_ne {a b : ByteArray} (h : a ≠ b) : (a.toList == b.toList) = false := beq_eq_false_iff_ne.2 fun e => h (tl_of e)
theorem tl_eq {a b : ByteArray} (h : (a.toList == b.toList) = true) : a = b := tl_of (by simpa using h)
theorem tl_avg : (⟨#[97, 118, 103]⟩ : ByteArray).toList = [97, 118, 103] := by rw [ByteArray.toList_eq]
def nameS (kind : Int) : ByteArray :=
  if kind = 1 then ⟨#[97, 118, 101, 114, 97, 103, 101]⟩ else if kind = 2 then ⟨#[115, 117, 109]⟩ else if kind = 3 then ⟨#[108, 97, 115, 116]⟩ else if kind = 4 then ⟨#[109, 97, 120]⟩ else if kind = 5 then ⟨#[109, 105, 110]⟩ else ⟨#[]⟩
def avgS : ByteArray := ⟨#[97, 118, 103]⟩
def kindI (s : ByteArray) : Int :=
  if s = avgS then 1 else if nameS 1 = s then 1 else if nameS 2 = s then 2 else if nameS 3 = s then 3 else if nameS 4 = s then 4 else if nameS 5 = s then 5 else 0
theorem kindI_at {s : ByteArray} {k : Int} (ha : s ≠ avgS) (h1 : 1 ≤ k) (h5 : k ≤ 5) (hb : ∀ j, 1 ≤ j → j < k → nameS j ≠ s) (hk : nameS k = s) : kindI s = k := by
  have : k = 1 ∨ k = 2 ∨ k = 3 ∨ k = 4 ∨ k = 5 := by omega
  unfold kindI
  rw [if_neg ha]
  rcases this with rfl | rfl | rfl | rfl | rfl
  · rw [if_pos hk]
  · rw [if_neg (hb 1 (by omega) (by omega)), if_pos hk]
  · rw [if_neg (hb 1 (by omega) (by omega)), if_neg (hb 2 (by omega) (by omega)), if_pos hk]
  · rw [if_neg (hb 1 (by omega) (by omega)), if_neg (hb 2 (by omega) (by omega)), if_neg (hb 3 (by omega) (by omega)), if_pos hk]
  · rw [if_neg (hb 1 (by omega) (by omega)), if_neg (hb 2 (by omega) (by omega)), if_neg (hb 3 (by omega) (by omega)), if_neg (hb 4 (by omega) (by omega)), if_pos hk]
theorem kindI_none {s : ByteArray} (ha : s ≠ avgS) (hb : ∀ j, 1 ≤ j → j < (6 : Int) → nameS j ≠ s) : kindI s = 0 := by
  unfold kindI
  rw [if_neg ha, if_neg (hb 1 (by omega) (by omega)), if_neg (hb 2 (by omega) (by omega)), if_neg (hb 3 (by omega) (by omega)), if_neg (hb 4 (by omega) (by omega)), if_neg (hb 5 (by omega) (by omega))]
theorem kind_name {k : Int} (h1 : 1 ≤ k) (h5 : k ≤ 5) : kindI (nameS k) = k := by
  have : k = 1 ∨ k = 2 ∨ k = 3 ∨ k = 4 ∨ k = 5 := by omega
  rcases this with rfl | rfl | rfl | rfl | rfl <;> decide

set_option maxHeartbeats 800000 in
theorem name_any (kind : Int) (w : World) :
    Calls Try.prog 19 #[.int .i64 kind] w fun e w' => e = .returned (.string (nameS kind)) ∧ Gr w w' := by
  by_cases k1 : kind = 1
  · subst k1
    have hv : nameS 1 = ⟨#[97, 118, 101, 114, 97, 103, 101]⟩ := rfl
    rw [hv]; clear hv
    go_enter Try.func19, Try.ntmps19
    go_wp2
    go_ret
    exact ⟨rfl, Gr.refl _⟩
  by_cases k2 : kind = 2
  · subst k2
    have hv : nameS 2 = ⟨#[115, 117, 109]⟩ := rfl
    rw [hv]; clear hv
    go_enter Try.func19, Try.ntmps19
    go_wp2
    go_ret
    exact ⟨rfl, Gr.refl _⟩
  by_cases k3 : kind = 3
  · subst k3
    have hv : nameS 3 = ⟨#[108, 97, 115, 116]⟩ := rfl
    rw [hv]; clear hv
    go_enter Try.func19, Try.ntmps19
    go_wp2
    go_ret
    exact ⟨rfl, Gr.refl _⟩
  by_cases k4 : kind = 4
  · subst k4
    have hv : nameS 4 = ⟨#[109, 97, 120]⟩ := rfl
    rw [hv]; clear hv
    go_enter Try.func19, Try.ntmps19
    go_wp2
    go_ret
    exact ⟨rfl, Gr.refl _⟩
  by_cases k5 : kind = 5
  · subst k5
    have hv : nameS 5 = ⟨#[109, 105, 110]⟩ := rfl
    rw [hv]; clear hv
    go_enter Try.func19, Try.ntmps19
    go_wp2
    go_ret
    exact ⟨rfl, Gr.refl _⟩
  have hv : nameS kind = ⟨#[]⟩ := by simp [nameS, k1, k2, k3, k4, k5]
  rw [hv]; clear hv
  have e1 := beq_eq_false_iff_ne.2 k1
  have e2 := beq_eq_false_iff_ne.2 k2
  have e3 := beq_eq_false_iff_ne.2 k3
  have e4 := beq_eq_false_iff_ne.2 k4
  have e5 := beq_eq_false_iff_ne.2 k5
  clear k1 k2 k3 k4 k5
  go_enter Try.func19, Try.ntmps19
  go_wp2
  go_ret
  exact ⟨rfl, Gr.refl _⟩

set_option maxRecDepth 100000 in
set_option maxHeartbeats 800000 in
theorem kind_any (s : ByteArray) (w : World) :
    Calls Try.prog 21 #[.string s] w fun e w' => e = .returned (.int .i64 (kindI s)) ∧ Gr w w' := by
  by_cases ha : s = avgS
  · have hv : kindI s = 1 := by simp [kindI, ha]
    rw [hv]; clear hv
    have hb : (s.toList == [97, 118, 103]) = true := by rw [ha]; exact beq_iff_eq.2 tl_avg
    clear ha
    go_enter Try.func21, Try.ntmps21
    go_wp2
    go_ret
    exact ⟨rfl, Gr.refl _⟩
  have hb : (s.toList == [97, 118, 103]) = false := by rw [← tl_avg]; exact tl_ne ha
  have HA := Lib.hid ha; clear ha
  go_enter Try.func21, Try.ntmps21
  go_wp2
  go_loopw [3] (fun i wr => ∃ k : Int, 1 ≤ k ∧ k ≤ 6 ∧ i = .int .i64 k ∧ Gr w wr ∧ ∀ j, 1 ≤ j → j < k → nameS j ≠ s) (fun i _ => (6 - intOf i).toNat)
  case atStart => exact ⟨1, by omega, by omega, rfl, Gr.refl _, fun j h h' => by omega⟩
  case round =>
    obtain ⟨k, hk1, hk6, rfl, hgr, hall⟩ := hrel
    have HALL := Lib.hid hall; clear hall
    by_cases hlt : k ≤ 5
    · cases hq : ((nameS k).toList == s.toList)
      · go_wp2_with fail
        refine (name_any k _).mono ?_; rintro e w1 ⟨rfl, hg⟩
        go_wp2
        go_roundw
        case rel =>
          refine ⟨k + 1, by omega, by omega, by go_num, (by repeat (first | exact Gr.refl _ | refine Gr.alloc ?_ _ | refine Gr.drew ?_ | refine Gr.setCell ?_ (by first | (simp; done) | (simp; omega) | omega) _ | refine Gr.trans ?_ (by assumption))), fun j h h' => ?_⟩
          by_cases hj : j = k
          · subst hj; exact fun e => (beq_eq_false_iff_ne.1 hq) (by rw [e])
          · exact HALL.out j h (by omega)
        case measure => simp [intOf]; omega
      · have hv : kindI s = k := kindI_at HA.out hk1 hlt HALL.out (tl_eq hq)
        have HV := Lib.hid hv; clear hv
        go_wp2_with fail
        refine (name_any k _).mono ?_; rintro e w1 ⟨rfl, hg⟩
        go_wp2
        go_ret
        exact ⟨by rw [HV.out]; rfl, (by repeat (first | exact Gr.refl _ | refine Gr.alloc ?_ _ | refine Gr.drew ?_ | refine Gr.setCell ?_ (by first | (simp; done) | (simp; omega) | omega) _ | refine Gr.trans ?_ (by assumption)))⟩
    · obtain rfl : k = 6 := by omega
      have hv : kindI s = 0 := kindI_none HA.out HALL.out
      have HV := Lib.hid hv; clear hv
      go_wp2
      go_ret
      exact ⟨by rw [HV.out]; rfl, hgr⟩
set_option maxHeartbeats 800000 in
theorem rname_any (kind : Int) (w : World) :
    Calls Try.prog 20 #[.int .i64 kind] w fun e w' => e = .returned (.string (nameS kind)) ∧ Gr w w' := by
  by_cases k1 : kind = 1
  · subst k1
    have hv : nameS 1 = ⟨#[97, 118, 101, 114, 97, 103, 101]⟩ := rfl
    rw [hv]; clear hv
    go_enter Try.func20, Try.ntmps20
    go_wp2
    go_ret
    exact ⟨rfl, Gr.refl _⟩
  by_cases k2 : kind = 2
  · subst k2
    have hv : nameS 2 = ⟨#[115, 117, 109]⟩ := rfl
    rw [hv]; clear hv
    go_enter Try.func20, Try.ntmps20
    go_wp2
    go_ret
    exact ⟨rfl, Gr.refl _⟩
  by_cases k3 : kind = 3
  · subst k3
    have hv : nameS 3 = ⟨#[108, 97, 115, 116]⟩ := rfl
    rw [hv]; clear hv
    go_enter Try.func20, Try.ntmps20
    go_wp2
    go_ret
    exact ⟨rfl, Gr.refl _⟩
  by_cases k4 : kind = 4
  · subst k4
    have hv : nameS 4 = ⟨#[109, 97, 120]⟩ := rfl
    rw [hv]; clear hv
    go_enter Try.func20, Try.ntmps20
    go_wp2
    go_ret
    exact ⟨rfl, Gr.refl _⟩
  by_cases k5 : kind = 5
  · subst k5
    have hv : nameS 5 = ⟨#[109, 105, 110]⟩ := rfl
    rw [hv]; clear hv
    go_enter Try.func20, Try.ntmps20
    go_wp2
    go_ret
    exact ⟨rfl, Gr.refl _⟩
  have hv : nameS kind = ⟨#[]⟩ := by simp [nameS, k1, k2, k3, k4, k5]
  rw [hv]; clear hv
  have e1 := beq_eq_false_iff_ne.2 k1
  have e2 := beq_eq_false_iff_ne.2 k2
  have e3 := beq_eq_false_iff_ne.2 k3
  have e4 := beq_eq_false_iff_ne.2 k4
  have e5 := beq_eq_false_iff_ne.2 k5
  clear k1 k2 k3 k4 k5
  go_enter Try.func20, Try.ntmps20
  go_wp2
  go_ret
  exact ⟨rfl, Gr.refl _⟩

set_option maxRecDepth 100000 in
set_option maxHeartbeats 800000 in
theorem rkind_any (s : ByteArray) (w : World) :
    Calls Try.prog 22 #[.string s] w fun e w' => e = .returned (.int .i64 (kindI s)) ∧ Gr w w' := by
  by_cases ha : s = avgS
  · have hv : kindI s = 1 := by simp [kindI, ha]
    rw [hv]; clear hv
    have hb : (s.toList == [97, 118, 103]) = true := by rw [ha]; exact beq_iff_eq.2 tl_avg
    clear ha
    go_enter Try.func22, Try.ntmps22
    go_wp2
    go_ret
    exact ⟨rfl, Gr.refl _⟩
  have hb : (s.toList == [97, 118, 103]) = false := by rw [← tl_avg]; exact tl_ne ha
  have HA := Lib.hid ha; clear ha
  go_enter Try.func22, Try.ntmps22
  go_wp2
  go_loopw [3] (fun i wr => ∃ k : Int, 1 ≤ k ∧ k ≤ 6 ∧ i = .int .i64 k ∧ Gr w wr ∧ ∀ j, 1 ≤ j → j < k → nameS j ≠ s) (fun i _ => (6 - intOf i).toNat)
  case atStart => exact ⟨1, by omega, by omega, rfl, Gr.refl _, fun j h h' => by omega⟩
  case round =>
    obtain ⟨k, hk1, hk6, rfl, hgr, hall⟩ := hrel
    have HALL := Lib.hid hall; clear hall
    by_cases hlt : k ≤ 5
    · cases hq : ((nameS k).toList == s.toList)
      · go_wp2_with fail
        refine (rname_any k _).mono ?_; rintro e w1 ⟨rfl, hg⟩
        go_wp2
        go_roundw
        case rel =>
          refine ⟨k + 1, by omega, by omega, by go_num, (by repeat (first | exact Gr.refl _ | refine Gr.alloc ?_ _ | refine Gr.drew ?_ | refine Gr.setCell ?_ (by first | (simp; done) | (simp; omega) | omega) _ | refine Gr.trans ?_ (by assumption))), fun j h h' => ?_⟩
          by_cases hj : j = k
          · subst hj; exact fun e => (beq_eq_false_iff_ne.1 hq) (by rw [e])
          · exact HALL.out j h (by omega)
        case measure => simp [intOf]; omega
      · have hv : kindI s = k := kindI_at HA.out hk1 hlt HALL.out (tl_eq hq)
        have HV := Lib.hid hv; clear hv
        go_wp2_with fail
        refine (rname_any k _).mono ?_; rintro e w1 ⟨rfl, hg⟩
        go_wp2
        go_ret
        exact ⟨by rw [HV.out]; rfl, (by repeat (first | exact Gr.refl _ | refine Gr.alloc ?_ _ | refine Gr.drew ?_ | refine Gr.setCell ?_ (by first | (simp; done) | (simp; omega) | omega) _ | refine Gr.trans ?_ (by assumption)))⟩
    · obtain rfl : k = 6 := by omega
      have hv : kindI s = 0 := kindI_none HA.out HALL.out
      have HV := Lib.hid hv; clear hv
      go_wp2
      go_ret
      exact ⟨by rw [HV.out]; rfl, hgr⟩

set_option maxRecDepth 100000 in
set_option maxHeartbeats 1600000 in
theorem law_AggNames (kind : Int) (s : ByteArray) (w : World) :
    Calls Try.prog 7 #[.int .i64 kind, .string s] w fun e w' => e = .returned (.bool true) ∧ Gr w w' := by
  by_cases h200 : (200 : Int) < (s.size : Int)
  · go_enter Try.func7, Try.ntmps7
    go_wp2
    go_ret
    exact ⟨rfl, Gr.refl _⟩
  by_cases hlo : kind < 1
  · go_enter Try.func7, Try.ntmps7
    go_wp2_with fail
    refine (name_any kind _).mono ?_; rintro e w1 ⟨rfl, hg1⟩
    go_wp2_with fail
    refine (rname_any kind _).mono ?_; rintro e w2 ⟨rfl, hg2⟩
    go_wp2_with fail
    refine (kind_any s _).mono ?_; rintro e w3 ⟨rfl, hg3⟩
    go_wp2_with fail
    refine (rkind_any s _).mono ?_; rintro e w4 ⟨rfl, hg4⟩
    have g4 : Gr w w4 := Gr.trans hg1 (Gr.trans hg2 (Gr.trans hg3 hg4))
    clear hg1 hg2 hg3 hg4
    go_wp2_with fail
    refine (known6_any _).mono ?_; rintro e w7 ⟨rfl, hg7⟩
    have g7 : Gr w w7 := (by repeat (first | exact Gr.refl _ | refine Gr.alloc ?_ _ | refine Gr.drew ?_ | refine Gr.setCell ?_ (by first | (simp; done) | (simp; omega) | omega) _ | refine Gr.trans ?_ (by assumption)))
    go_wp2
    go_ret
    exact ⟨rfl, g7⟩
  by_cases hhi : 5 < kind
  · go_enter Try.func7, Try.ntmps7
    go_wp2_with fail
    refine (name_any kind _).mono ?_; rintro e w1 ⟨rfl, hg1⟩
    go_wp2_with fail
    refine (rname_any kind _).mono ?_; rintro e w2 ⟨rfl, hg2⟩
    go_wp2_with fail
    refine (kind_any s _).mono ?_; rintro e w3 ⟨rfl, hg3⟩
    go_wp2_with fail
    refine (rkind_any s _).mono ?_; rintro e w4 ⟨rfl, hg4⟩
    have g4 : Gr w w4 := Gr.trans hg1 (Gr.trans hg2 (Gr.trans hg3 hg4))
    clear hg1 hg2 hg3 hg4
    go_wp2_with fail
    refine (known6_any _).mono ?_; rintro e w7 ⟨rfl, hg7⟩
    have g7 : Gr w w7 := (by repeat (first | exact Gr.refl _ | refine Gr.alloc ?_ _ | refine Gr.drew ?_ | refine Gr.setCell ?_ (by first | (simp; done) | (simp; omega) | omega) _ | refine Gr.trans ?_ (by assumption)))
    go_wp2
    go_ret
    exact ⟨rfl, g7⟩
  have hkn := kind_name (k := kind) (by omega) (by omega)
  go_enter Try.func7, Try.ntmps7
  go_wp2_with fail
  refine (name_any kind _).mono ?_; rintro e w1 ⟨rfl, hg1⟩
  go_wp2_with fail
  refine (rname_any kind _).mono ?_; rintro e w2 ⟨rfl, hg2⟩
  go_wp2_with fail
  refine (kind_any s _).mono ?_; rintro e w3 ⟨rfl, hg3⟩
  go_wp2_with fail
  refine (rkind_any s _).mono ?_; rintro e w4 ⟨rfl, hg4⟩
  have g4 : Gr w w4 := Gr.trans hg1 (Gr.trans hg2 (Gr.trans hg3 hg4))
  clear hg1 hg2 hg3 hg4
  go_wp2_with fail
  refine (name_any kind _).mono ?_; rintro e w5 ⟨rfl, hg5⟩
  go_wp2_with fail
  refine (kind_any (nameS kind) _).mono ?_; rintro e w6 ⟨rfl, hg6⟩
  go_wp2_with fail
  refine (known6_any _).mono ?_; rintro e w7 ⟨rfl, hg7⟩
  have g7 : Gr w w7 := (by repeat (first | exact Gr.refl _ | refine Gr.alloc ?_ _ | refine Gr.drew ?_ | refine Gr.setCell ?_ (by first | (simp; done) | (simp; omega) | omega) _ | refine Gr.trans ?_ (by assumption)))
  go_wp2
  go_ret
  exact ⟨rfl, g7⟩
end Go.Proofs.Ytoojjejdbpkbhaa
