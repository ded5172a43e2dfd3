/- The laws AggOf and AggPuts of chapter 6, walked over the contracts. -/
import Derived.Test.YtoojjejdbpkbhaaAgPut
namespace Go.Proofs.Ytoojjejdbpkbhaa
open Go.RowKit

def three : List Vl := [⟨true, 1000000⟩, ⟨false, 0⟩, ⟨true, 3000000⟩]
theorem known_mean : putV 1 500000 three = ⟨true, 2000000⟩ := by rfl
set_option maxRecDepth 100000 in
set_option maxHeartbeats 800000 in
theorem known6_any (w : World) : Calls Try.prog 13 #[] w fun e w' => e = .returned (.bool true) ∧ Gr w w' := by
  have k1 : (putV 1 500000 three).ok = true := by rw [known_mean]
  have k2 : (putV 1 500000 three).n = 2000000 := by rw [known_mean]
  go_enter Try.func13, Try.ntmps13
  go_wp2_with fail
  refine (put_any 1 500000 (some ⟨w.heap.size, 0, none⟩) 3 three _ (by decide) ?hr).mono ?_
  case hr => exact Rv.new rfl 24 three
  rintro e w1 ⟨rfl, hg⟩
  go_wp2
  go_ret
  exact ⟨rfl, (by repeat (first | exact Gr.refl _ | refine Gr.alloc ?_ _ | refine Gr.drew ?_ | refine Gr.setCell ?_ (by first | (simp; done) | (simp; omega) | omega) _ | refine Gr.trans ?_ (by assumption)))⟩

set_option maxRecDepth 100000 in
set_option maxHeartbeats 800000 in
theorem vals_same (A B : Option Addr) (c c' : Nat) (l : List Vl) (w : World) (hl : l.length ≤ 1000000) (hr : Rv w A l) (hr' : Rv w B l) :
    Calls Try.prog 10 #[.slice A l.length c, .slice B l.length c'] w fun e w' => e = .returned (.bool true) ∧ Gr w w' := by
  have hlK : (l.length : Int) ≤ 1000000 := by omega
  go_enter Try.func10, Try.ntmps10
  go_wp2
  go_loopw [5] (fun i wr => ∃ k n : Nat, k ≤ l.length ∧ i = .int .i64 k ∧ wr = w.drewN n) (fun i _ => l.length - (intOf i).toNat)
  case atStart => exact ⟨0, 0, Nat.zero_le _, rfl, rfl⟩
  case round =>
    obtain ⟨k, n, hk, rfl, rfl⟩ := hrel
    by_cases hlt : k < l.length
    · obtain ⟨ad, rfl, hb, hx0, hx1⟩ := hr.at hlt
      obtain ⟨ad', rfl, hb', hy0, hy1⟩ := hr'.at hlt
      go_wp2
      go_quiet (fail)
      go_wp2
      go_roundw
      case rel => exact ⟨k + 1, _, by omega, by go_num, rfl⟩
      case measure => simp [intOf]; omega
    · have hkk : k = l.length := by omega
      subst hkk
      go_wp2
      go_ret
      exact ⟨rfl, Gr.drewN (Gr.refl _) _⟩

set_option maxRecDepth 100000 in
set_option maxHeartbeats 1600000 in
theorem law_AggPuts (kind xff : Int) (A : Option Addr) (c : Nat) (l : List Vl) (a b : Int) (w : World) (_hl : l.length ≤ maxLen) (hr : Rv w A l) :
    Calls Try.prog 4 #[.int .i64 kind, .int .i64 xff, .slice A l.length c, .int .i64 a, .int .i64 b] w fun e w' => e = .returned (.bool true) ∧ Gr w w' := by
  by_cases h200 : (200 : Int) < (l.length : Int)
  · go_enter Try.func4, Try.ntmps4
    go_wp2
    go_ret
    exact ⟨rfl, Gr.refl _⟩
  have hlm : l.length ≤ 1000000 := by omega
  go_enter Try.func4, Try.ntmps4
  go_wp2_with fail
  refine (put_any kind xff A c l _ hlm hr).mono ?_; rintro e w1 ⟨rfl, hg1⟩
  go_wp2_with fail
  refine (rput_any kind xff A c l _ hlm (hr.gr hg1)).mono ?_; rintro e w2 ⟨rfl, hg2⟩
  have hgb : Gr w w2 := Gr.trans hg1 hg2
  clear hg1 hg2
  go_wp2_with fail
  refine (enough_any xff a b _).mono ?_; rintro e w3 ⟨rfl, hg3⟩
  go_wp2_with fail
  refine (renough_any xff a b _).mono ?_; rintro e w4 ⟨rfl, hg4⟩
  go_wp2_with fail
  refine (known6_any _).mono ?_; rintro e w5 ⟨rfl, hg5⟩
  have hgw : Gr w w5 := Gr.trans hgb (Gr.trans hg3 (Gr.trans hg4 hg5))
  go_wp2
  go_ret
  exact ⟨rfl, hgw⟩

set_option maxRecDepth 100000 in
set_option maxHeartbeats 1600000 in
theorem law_AggOf (kind : Int) (A : Option Addr) (c : Nat) (l : List Vl) (w : World) (_hl : l.length ≤ maxLen) (hr : Rv w A l) :
    Calls Try.prog 3 #[.int .i64 kind, .slice A l.length c] w fun e w' => e = .returned (.bool true) ∧ Gr w w' := by
  by_cases h200 : (200 : Int) < (l.length : Int)
  · go_enter Try.func3, Try.ntmps3
    go_wp2
    go_ret
    exact ⟨rfl, Gr.refl _⟩
  obtain ⟨i0, hi, hz0, hz1, hz2⟩ := info_parts info_val
  have hlm : l.length ≤ 1000000 := by omega
  have hlk : (kn l).length ≤ 1000000 := Nat.le_trans (kn_len l) hlm
  go_enter Try.func3, Try.ntmps3
  have hr1 : Rd (w.alloc (.cells #[] 24)) 2 A l.length (vcells l) := Rv.gr hr (Gr.alloc (Gr.refl _) _)
  go_wp2_with (at_builtin; refine wpList_append_rd rfl (.tmp 9) (.tmp 10) 22 rfl w.heap.size 24 i0 _ 2 16 Try.underlying22 hi hz0 hz1 hz2 rfl (by decide) (.slice (some ⟨w.heap.size, 0, none⟩) 0 0) 0 [] rfl (World.ownsRow_lit w #[] 0 (Nat.le_refl _) (Nat.zero_le _) rfl) A l.length c (vcells l) rfl hr1 (vcells_one l) (by unfold maxLen; omega) (by omega) (by simp) ?_; intro v' w1 hown hgr hat)
  obtain ⟨A', c', hv⟩ := own_form hown
  subst hv
  simp only [Nat.zero_add, List.nil_append] at hown
  rw [Nat.zero_add]
  have g1 : Gr w w1 := Gr.grown (Gr.alloc (Gr.refl _) _) hgr (by intro k hk; simp [Value.ownBlock] at hk; omega)
  have hr2 : Rv w1 A' l := Rd.own hown
  clear hown hgr hat hr1
  refine (agg_of_any kind A' c' l _ hlm hr2).mono ?_; rintro e w2 ⟨rfl, hg2⟩
  have g2 : Gr w w2 := Gr.trans g1 hg2
  go_wp2_with fail
  refine (ragg_of_any kind A c l _ hlm (hr.gr g2)).mono ?_; rintro e w3 ⟨rfl, hg3⟩
  have g3 : Gr w w3 := Gr.trans g2 hg3
  have k3 : Gr w1 w3 := Gr.trans hg2 hg3
  clear g2 hg3 hg2 
  go_wp2_with fail
  refine (vals_same A' A c' c l _ hlm (hr2.gr k3) (hr.gr g3)).mono ?_; rintro e w4 ⟨rfl, hg4⟩
  have g4 : Gr w w4 := Gr.trans g3 hg4
  have k4 : Gr w1 w4 := Gr.trans k3 hg4
  clear g3 hg4 k3
  go_wp2_with fail
  refine (known_vals_any A' c' l _ hlm (hr2.gr k4)).mono ?_; rintro e w5 ⟨A5, c5, rfl, hr5, hg5⟩
  have g5 : Gr w w5 := Gr.trans g4 hg5
  clear g4 k4 hg5
  go_wp2_with fail
  refine (rknown_vals_any A c l _ hlm (hr.gr g5)).mono ?_; rintro e w6 ⟨A6, c6, rfl, hr6, hg6⟩
  have g6 : Gr w w6 := Gr.trans g5 hg6
  go_wp2_with fail
  refine (vals_same A5 A6 c5 c6 (kn l) _ hlk (hr5.gr hg6) hr6).mono ?_; rintro e w7 ⟨rfl, hg7⟩
  have g7 : Gr w w7 := Gr.trans g6 hg7
  go_wp2_with fail
  refine (known6_any _).mono ?_; rintro e w8 ⟨rfl, hg8⟩
  have g8 : Gr w w8 := Gr.trans g7 hg8
  go_wp2
  go_ret
  exact ⟨rfl, g8⟩
end Go.Proofs.Ytoojjejdbpkbhaa
