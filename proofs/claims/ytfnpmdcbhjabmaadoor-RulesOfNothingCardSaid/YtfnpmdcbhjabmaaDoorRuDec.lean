/- Digits, whole numbers: dec of the program, chapter 2 of the reference. -/
import Derived.Test.YtfnpmdcbhjabmaaDoorRuSpec
import Derived.Test.YtfnpmdcbhjabmaaDoorRuShelf
import Derived.Test.YtfnpmdcbhjabmaaDoorFxBase
import Derived.Lib.Hide
namespace Go.Proofs.YtfnpmdcbhjabmaaDoor
set_option linter.unusedVariables false
set_option linter.unusedSimpArgs false
open Go.RowKit

theorem toList_data_ru (s : ByteArray) : s.toList = s.data.toList := by first | exact Lib.toList_data s | exact ByteArray.toList_eq
theorem ne_nil {s : ByteArray} (h : ¬ s.size = 0) : s.data.toList ≠ [] := fun e => h (by show s.data.size = 0; rw [← Array.length_toList, e]; rfl)
theorem ret_b {a b : Bool} (h : a = b) : Ending.returned (.bool a) = .returned (.bool b) := by rw [h]
theorem all_take (s : ByteArray) (k : Nat) (h : k < s.size) : (s.data.toList.take (k + 1)).all isDg = ((s.data.toList.take k).all isDg && isDg s[k]) := by
  rw [List.take_succ_eq_append_getElem (by simpa using h), List.all_append]
  simp only [List.all_cons, List.all_nil, Bool.and_true]
  rfl
theorem all_no {l : List UInt8} {k : Nat} {b : Bool} (h : (l.take (k + 1)).all isDg = (b && false)) : allDg l = false := by
  have h1 : (l.take (k + 1)).all isDg = false := by rw [h]; cases b <;> rfl
  unfold allDg
  rw [Bool.and_eq_false_iff]
  left
  cases e : l.all isDg with
  | false => rfl
  | true =>
    have := List.all_eq_true.1 e
    rw [List.all_eq_true.2 (fun x hx => this x (List.mem_of_mem_take hx))] at h1
    cases h1

set_option maxRecDepth 100000 in
set_option maxHeartbeats 3200000 in
theorem dec_digit (c : UInt8) (w : World) : Calls Tryd.prog 68 #[.int .u8 c.toNat] w fun e w' => e = .returned (.bool (isDg c)) ∧ w = w' := by
  cases hc : isDg c
  · rcases (isDg_not c).1 hc with h | h
    · have h1 : ¬ (48 : Int) ≤ (c.toNat : Int) := by omega
      clear hc h
      go_enter Tryd.func68, Tryd.ntmps68
      go_wp2
      go_ret
      exact ⟨rfl, rfl⟩
    · have h1 : (48 : Int) ≤ (c.toNat : Int) := by omega
      have h2 : ¬ (c.toNat : Int) ≤ 57 := by omega
      clear hc h
      go_enter Tryd.func68, Tryd.ntmps68
      go_wp2
      go_ret
      exact ⟨rfl, rfl⟩
  · obtain ⟨a, b⟩ := (isDg_iff c).1 hc
    have h1 : (48 : Int) ≤ (c.toNat : Int) := by omega
    have h2 : (c.toNat : Int) ≤ 57 := by omega
    clear hc a b
    go_enter Tryd.func68, Tryd.ntmps68
    go_wp2
    go_ret
    exact ⟨rfl, rfl⟩
set_option maxRecDepth 100000 in
set_option maxHeartbeats 3200000 in
theorem span_digit (c : UInt8) (w : World) : Calls Tryd.prog 69 #[.int .u8 c.toNat] w fun e w' => e = .returned (.bool (isDg c)) ∧ w = w' := by
  cases hc : isDg c
  · rcases (isDg_not c).1 hc with h | h
    · have h1 : ¬ (48 : Int) ≤ (c.toNat : Int) := by omega
      clear hc h
      go_enter Tryd.func69, Tryd.ntmps69
      go_wp2
      go_ret
      exact ⟨rfl, rfl⟩
    · have h1 : (48 : Int) ≤ (c.toNat : Int) := by omega
      have h2 : ¬ (c.toNat : Int) ≤ 57 := by omega
      clear hc h
      go_enter Tryd.func69, Tryd.ntmps69
      go_wp2
      go_ret
      exact ⟨rfl, rfl⟩
  · obtain ⟨a, b⟩ := (isDg_iff c).1 hc
    have h1 : (48 : Int) ≤ (c.toNat : Int) := by omega
    have h2 : (c.toNat : Int) ≤ 57 := by omega
    clear hc a b
    go_enter Tryd.func69, Tryd.ntmps69
    go_wp2
    go_ret
    exact ⟨rfl, rfl⟩
set_option maxRecDepth 100000 in
set_option maxHeartbeats 3200000 in
theorem ref2_digit (c : UInt8) (w : World) : Calls Tryd.prog 58 #[.int .u8 c.toNat] w fun e w' => e = .returned (.bool (isDg c)) ∧ w = w' := by
  cases hc : isDg c
  · rcases (isDg_not c).1 hc with h | h
    · have h1 : ¬ (48 : Int) ≤ (c.toNat : Int) := by omega
      clear hc h
      go_enter Tryd.func58, Tryd.ntmps58
      go_wp2
      go_ret
      exact ⟨rfl, rfl⟩
    · have h1 : (48 : Int) ≤ (c.toNat : Int) := by omega
      have h2 : ¬ (c.toNat : Int) ≤ 57 := by omega
      clear hc h
      go_enter Tryd.func58, Tryd.ntmps58
      go_wp2
      go_ret
      exact ⟨rfl, rfl⟩
  · obtain ⟨a, b⟩ := (isDg_iff c).1 hc
    have h1 : (48 : Int) ≤ (c.toNat : Int) := by omega
    have h2 : (c.toNat : Int) ≤ 57 := by omega
    clear hc a b
    go_enter Tryd.func58, Tryd.ntmps58
    go_wp2
    go_ret
    exact ⟨rfl, rfl⟩
set_option maxRecDepth 100000 in
set_option maxHeartbeats 3200000 in
theorem ref16_digit (c : UInt8) (w : World) : Calls Tryd.prog 42 #[.int .u8 c.toNat] w fun e w' => e = .returned (.bool (isDg c)) ∧ w = w' := by
  cases hc : isDg c
  · rcases (isDg_not c).1 hc with h | h
    · have h1 : ¬ (48 : Int) ≤ (c.toNat : Int) := by omega
      clear hc h
      go_enter Tryd.func42, Tryd.ntmps42
      go_wp2
      go_ret
      exact ⟨rfl, rfl⟩
    · have h1 : (48 : Int) ≤ (c.toNat : Int) := by omega
      have h2 : ¬ (c.toNat : Int) ≤ 57 := by omega
      clear hc h
      go_enter Tryd.func42, Tryd.ntmps42
      go_wp2
      go_ret
      exact ⟨rfl, rfl⟩
  · obtain ⟨a, b⟩ := (isDg_iff c).1 hc
    have h1 : (48 : Int) ≤ (c.toNat : Int) := by omega
    have h2 : (c.toNat : Int) ≤ 57 := by omega
    clear hc a b
    go_enter Tryd.func42, Tryd.ntmps42
    go_wp2
    go_ret
    exact ⟨rfl, rfl⟩

set_option maxRecDepth 100000 in
set_option maxHeartbeats 3200000 in
theorem dec_all (s : ByteArray) (hs : (s.size : Int) ≤ 4096) (w : World) : Calls Tryd.prog 53 #[.string s] w fun e w' => e = .returned (.bool (allDg s.data.toList)) ∧ w = w' := by
  go_enter Tryd.func53, Tryd.ntmps53
  go_wp2
  go_loop [6] (fun i => ∃ k : Nat, k ≤ s.size ∧ i = .int .i64 k ∧ (s.data.toList.take k).all isDg = true) (fun i => s.size - (intOf i).toNat)
  case atStart => exact ⟨0, Nat.zero_le _, rfl, rfl⟩
  case round =>
    obtain ⟨k, hk, rfl, ha⟩ := hrel
    have Ha := Lib.hid ha
    clear ha
    by_cases hlt : k < s.size
    · have hlt' : (k : Int) < (s.size : Int) := by omega
      have ht := all_take s k hlt
      have HD := dec_digit s[k]
      cases hd : isDg s[k]
      · rw [hd] at HD ht
        have hn : allDg s.data.toList = false := all_no ht
        have Hn := Lib.hid hn
        clear ht hd hn
        go_wp2_with (go_at_call 68; refine (HD _).mono ?_; rintro e w' ⟨rfl, rfl⟩)
        go_ret
        exact ⟨ret_b Hn.out.symm, rfl⟩
      · rw [hd] at HD ht
        have Ht := Lib.hid ht
        clear ht hd
        go_wp2_with (go_at_call 68; refine (HD _).mono ?_; rintro e w' ⟨rfl, rfl⟩)
        go_round
        case rel => exact ⟨k + 1, by omega, by go_num, by rw [Ht.out, Ha.out]; rfl⟩
        case measure => simp [intOf]; omega
    · have hks : k = s.size := by omega
      have hge : ¬ (k : Int) < (s.size : Int) := by omega
      have hall : s.data.toList.all isDg = true := by
        have := Ha.out
        rwa [List.take_of_length_le (by simp; omega)] at this
      have Hall := Lib.hid hall
      clear hall hks
      by_cases h0 : s.size = 0
      · obtain rfl : s = ⟨#[]⟩ := by
          apply ByteArray.ext; apply Array.eq_empty_of_size_eq_zero; exact h0
        clear h0
        go_wp2
        go_ret
        exact ⟨rfl, rfl⟩
      · have e0 : allDg s.data.toList = true := by
          unfold allDg
          rw [Hall.out, Bool.true_and, Bool.not_eq_true', List.isEmpty_eq_false_iff]
          exact ne_nil h0
        have E0 := Lib.hid e0
        have n1 : s.toList.isEmpty = false := by rw [toList_data_ru]; rw [List.isEmpty_eq_false_iff]; exact ne_nil h0
        have n2 : s.data.toList.isEmpty = false := by rw [List.isEmpty_eq_false_iff]; exact ne_nil h0
        have n3 : (s.toList == []) = false := by rw [toList_data_ru, beq_eq_false_iff_ne]; exact ne_nil h0
        have n4 : (0 : Int) < (s.size : Int) := by omega
        clear h0 e0
        go_wp2
        go_ret
        first | exact ⟨ret_b E0.out.symm, rfl⟩ | exact ⟨ret_b (by rw [E0.out]; exact decide_eq_true (by omega)), rfl⟩

end Go.Proofs.YtfnpmdcbhjabmaaDoor
