/- The law SeriesLabel of chapter 18, walked over the contracts. -/
import Derived.Test.YtoikpkgogncdhaaSrLabel
import Derived.Test.YtoikpkgogncdhaaSrKnown
namespace Go.Proofs.Ytoikpkgogncdhaa
set_option linter.unusedVariables false
set_option linter.unusedSimpArgs false
open Go.RowKit

set_option maxRecDepth 100000 in
set_option maxHeartbeats 1600000 in
theorem law_SeriesLabel (name : ByteArray) (A : Option Addr) (c : Nat) (xs : List ByteArray) (w : World) (hcap : xs.length ≤ c) (hr : Rt w A xs) :
    Calls Try.prog 10 #[.string name, .slice A xs.length c] w fun e w' => e = .returned (.bool true) ∧ Gr w w' := by
  by_cases hn : (name.size : Int) ≤ 300
  case neg =>
    go_enter Try.func10, Try.ntmps10
    go_wp2
    go_ret
    exact ⟨rfl, Gr.refl _⟩
  by_cases h20 : (xs.length : Int) ≤ 20
  case neg =>
    go_enter Try.func10, Try.ntmps10
    go_wp2
    go_ret
    exact ⟨rfl, Gr.refl _⟩
  go_enter Try.func10, Try.ntmps10
  go_wp2
  go_loopw [5] (fun i wr => ∃ k : Nat, k ≤ xs.length ∧ i = .int .i64 k ∧ Gr w wr ∧ Hid (∀ j (hj : j < xs.length), j < k → xs[j].size ≤ 300)) (fun i _ => xs.length - (intOf i).toNat)
  case atStart => exact ⟨0, Nat.zero_le _, rfl, Gr.refl _, Lib.hid (fun j _ h => absurd h (Nat.not_lt_zero _))⟩
  case round =>
    obtain ⟨k, hk, rfl, hgr, HA⟩ := hrel
    by_cases hlt : k < xs.length
    · obtain ⟨ad, rfl, hb, hx⟩ := (hr.gr hgr).at hlt
      have hx' : Hid (k = 0 → wr.cell? ad = some (.string xs[k])) := Lib.hid (fun h => by subst h; rw [show ad.add 0 = ad by simp [Addr.add]] at hx; exact hx)
      by_cases h300 : (xs[k].size : Int) ≤ 300
      · have HA2 : Hid (∀ j (hj : j < xs.length), j < k + 1 → xs[j].size ≤ 300) := Lib.hid (fun j hj hjk => by
          by_cases e : j = k
          · subst e; omega
          · exact HA.out j hj (by omega))
        go_wp2
        go_roundw
        case rel => exact ⟨k + 1, by omega, by go_num, hgr, HA2⟩
        case measure => simp [intOf]; omega
      · go_wp2
        go_ret
        exact ⟨rfl, hgr⟩
    · have hkk : k = xs.length := by omega
      subst hkk
      have HX : Hid (∀ x ∈ xs, x.size ≤ 300) := Lib.hid (fun x hx => by obtain ⟨j, hj, rfl⟩ := List.getElem_of_mem hx; exact HA.out j hj hj)
      clear HA
      go_wp2_with fail
      refine (label_any name A c xs _ (by omega) (by omega) HX.out hcap (hr.gr hgr)).mono ?_; rintro e w1 ⟨rfl, hg1⟩
      go_wp2_with fail
      refine (rlabel_any name A c xs _ (by omega) (by omega) HX.out (hr.gr (Gr.trans hgr hg1))).mono ?_; rintro e w2 ⟨rfl, hg2⟩
      go_wp2_with fail
      refine (known18_any _).mono ?_; rintro e w3 ⟨rfl, hg3⟩
      go_wp2
      go_ret
      exact ⟨rfl, Gr.trans hgr (Gr.trans hg1 (Gr.trans hg2 hg3))⟩
end Go.Proofs.Ytoikpkgogncdhaa
