/- Has of the program and of the reference: whether a byte is in one of the runs. The law RexHas. -/
import Derived.Test.YtpcmdijgepbilaaRxKnown
namespace Go.Proofs.Ytpcmdijgepbilaa
set_option linter.unusedVariables false
set_option linter.unusedSimpArgs false
open Go.RowKit

def hasS : List UInt8 → Int → Bool
  | a :: b :: r, c => (decide ((a.toNat : Int) ≤ c) && decide (c ≤ (b.toNat : Int))) || hasS r c
  | [_], _ => false
  | [], _ => false
theorem hasS_yes {l : List UInt8} {c : Int} {k : Nat} (h : k + 1 < l.length) (h1 : (l[k].toNat : Int) ≤ c) (h2 : c ≤ (l[k + 1].toNat : Int)) : hasS (l.drop k) c = true := by
  rw [List.drop_eq_getElem_cons (by omega : k < l.length), List.drop_eq_getElem_cons h]
  simp only [hasS, h1, h2, decide_true, Bool.and_self, Bool.true_or]
theorem hasS_no {l : List UInt8} {c : Int} {k : Nat} (h : k + 1 < l.length) (h1 : ¬ ((l[k].toNat : Int) ≤ c ∧ c ≤ (l[k + 1].toNat : Int))) : hasS (l.drop k) c = hasS (l.drop (k + 2)) c := by
  rw [List.drop_eq_getElem_cons (by omega : k < l.length), List.drop_eq_getElem_cons h]
  have e : (decide ((l[k].toNat : Int) ≤ c) && decide (c ≤ (l[k + 1].toNat : Int))) = false := by
    rw [← Bool.decide_and]; exact decide_eq_false h1
  simp only [hasS, e, Bool.false_or]
theorem hasS_end {l : List UInt8} {c : Int} {k : Nat} (h : ¬ k + 1 < l.length) : hasS (l.drop k) c = false := by
  match e : l.drop k with
  | [] => rfl
  | [_] => rfl
  | a :: b :: r =>
    have := congrArg List.length e
    simp at this
    omega

set_option maxRecDepth 100000 in
set_option maxHeartbeats 3200000 in
theorem has_any (s : ByteArray) (hs : (s.size : Int) ≤ 9223372036854775800) (c : Int) (w : World) : Calls Try.prog 10 #[.string s, .int .u8 c] w fun e w' => e = .returned (.bool (hasS s.data.toList c)) ∧ w = w' := by
  obtain ⟨R, hR⟩ : ∃ R, R = hasS s.data.toList c := ⟨_, rfl⟩
  rw [← hR]
  have HR := Lib.hid hR
  clear hR
  go_enter Try.func10, Try.ntmps10
  go_wp2
  go_loop [5] (fun i => ∃ k : Nat, k ≤ s.size + 1 ∧ i = .int .i64 k ∧ R = hasS (s.data.toList.drop k) c) (fun i => s.size + 2 - (intOf i).toNat)
  case atStart => exact ⟨0, by omega, rfl, HR.out⟩
  case round =>
    obtain ⟨k, hk, rfl, hE⟩ := hrel
    have HE := Lib.hid hE
    clear hE
    by_cases hlt : k + 1 < s.size
    · have hlt' : (k : Int) + 1 < (s.size : Int) := by omega
      have hk0 : k < s.size := by omega
      have hkl : k + 1 < s.data.toList.length := by simpa using hlt
      have e1 : s.data.toList[k]'(by omega) = s[k] := rfl
      have e2 : s.data.toList[k + 1] = s[k + 1] := rfl
      have HEE := Lib.hid (And.intro e1 e2)
      clear e1 e2
      by_cases h1 : ((s[k]).toNat : Int) ≤ c
      · by_cases h2 : c ≤ ((s[k + 1]).toNat : Int)
        · go_wp2
          go_ret
          have := hasS_yes (l := s.data.toList) (c := c) hkl (by rw [HEE.out.1]; exact h1) (by rw [HEE.out.2]; exact h2)
          rw [HE.out, this]
          exact ⟨rfl, rfl⟩
        · go_wp2
          go_round
          case rel => exact ⟨k + 2, by omega, by go_num, by rw [HE.out]; exact hasS_no hkl (by rw [HEE.out.1, HEE.out.2]; exact fun h => absurd h.2 (by omega))⟩
          case measure => simp [intOf]; omega
      · go_wp2
        go_round
        case rel => exact ⟨k + 2, by omega, by go_num, by rw [HE.out]; exact hasS_no hkl (by rw [HEE.out.1, HEE.out.2]; exact fun h => absurd h.1 (by omega))⟩
        case measure => simp [intOf]; omega
    · have hge : ¬ (k : Int) + 1 < (s.size : Int) := by omega
      go_wp2
      go_ret
      have := hasS_end (l := s.data.toList) (c := c) (k := k) (by simpa using hlt)
      rw [HE.out, this]
      exact ⟨rfl, rfl⟩

set_option maxRecDepth 100000 in
set_option maxHeartbeats 3200000 in
theorem rhas_any (s : ByteArray) (hs : (s.size : Int) ≤ 9223372036854775800) (c : Int) (w : World) : Calls Try.prog 11 #[.string s, .int .u8 c] w fun e w' => e = .returned (.bool (hasS s.data.toList c)) ∧ w = w' := by
  obtain ⟨R, hR⟩ : ∃ R, R = hasS s.data.toList c := ⟨_, rfl⟩
  rw [← hR]
  have HR := Lib.hid hR
  clear hR
  go_enter Try.func11, Try.ntmps11
  go_wp2
  go_loop [5] (fun i => ∃ k : Nat, k ≤ s.size + 1 ∧ i = .int .i64 k ∧ R = hasS (s.data.toList.drop k) c) (fun i => s.size + 2 - (intOf i).toNat)
  case atStart => exact ⟨0, by omega, rfl, HR.out⟩
  case round =>
    obtain ⟨k, hk, rfl, hE⟩ := hrel
    have HE := Lib.hid hE
    clear hE
    by_cases hlt : k + 1 < s.size
    · have hlt' : (k : Int) + 1 < (s.size : Int) := by omega
      have hk0 : k < s.size := by omega
      have hkl : k + 1 < s.data.toList.length := by simpa using hlt
      have e1 : s.data.toList[k]'(by omega) = s[k] := rfl
      have e2 : s.data.toList[k + 1] = s[k + 1] := rfl
      have HEE := Lib.hid (And.intro e1 e2)
      clear e1 e2
      by_cases h1 : ((s[k]).toNat : Int) ≤ c
      · by_cases h2 : c ≤ ((s[k + 1]).toNat : Int)
        · go_wp2
          go_ret
          have := hasS_yes (l := s.data.toList) (c := c) hkl (by rw [HEE.out.1]; exact h1) (by rw [HEE.out.2]; exact h2)
          rw [HE.out, this]
          exact ⟨rfl, rfl⟩
        · go_wp2
          go_round
          case rel => exact ⟨k + 2, by omega, by go_num, by rw [HE.out]; exact hasS_no hkl (by rw [HEE.out.1, HEE.out.2]; exact fun h => absurd h.2 (by omega))⟩
          case measure => simp [intOf]; omega
      · go_wp2
        go_round
        case rel => exact ⟨k + 2, by omega, by go_num, by rw [HE.out]; exact hasS_no hkl (by rw [HEE.out.1, HEE.out.2]; exact fun h => absurd h.1 (by omega))⟩
        case measure => simp [intOf]; omega
    · have hge : ¬ (k : Int) + 1 < (s.size : Int) := by omega
      go_wp2
      go_ret
      have := hasS_end (l := s.data.toList) (c := c) (k := k) (by simpa using hlt)
      rw [HE.out, this]
      exact ⟨rfl, rfl⟩

set_option maxRecDepth 100000 in
set_option maxHeartbeats 3200000 in
theorem law_RexHas (s : ByteArray) (c : Int) (w : World) : Calls Try.prog 5 #[.string s, .int .u8 c] w fun e w' => e = .returned (.bool true) ∧ Gr w w' := by
  by_cases hl : (s.size : Int) ≤ 200
  · have hl2 : ¬ (200 : Int) < s.size := by omega
    obtain ⟨R, hR⟩ : ∃ R, R = hasS s.data.toList c := ⟨_, rfl⟩
    have h1 := fun w => has_any s (by omega) c w
    have h2 := fun w => rhas_any s (by omega) c w
    rw [← hR] at h1 h2
    have H1 := Lib.hid (And.intro h1 h2)
    clear hR h1 h2
    go_enter Try.func5, Try.ntmps5
    go_wp2_with (first | (go_at_call 10; refine (H1.out.1 _).mono ?_; rintro e w1 ⟨rfl, rfl⟩) | (go_at_call 11; refine (H1.out.2 _).mono ?_; rintro e w1 ⟨rfl, rfl⟩) | (go_at_call 9; refine (known_any _).mono ?_; rintro e w1 ⟨rfl, hg⟩))
    go_ret
    exact ⟨rfl, hg⟩
  · have hl2 : (200 : Int) < s.size := by omega
    go_enter Try.func5, Try.ntmps5
    go_wp2
    go_ret
    exact ⟨rfl, Gr.refl _⟩
end Go.Proofs.Ytpcmdijgepbilaa
