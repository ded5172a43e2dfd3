/- The law RexDeep: so many groups within one another may be, one more may not. -/
import Derived.Test.YtpcmdijgepbilaaRxDeepP
import Derived.Test.YtpcmdijgepbilaaRxHas
namespace Go.Proofs.Ytpcmdijgepbilaa
set_option linter.unusedVariables false
set_option linter.unusedSimpArgs false
open Go.RowKit

set_option maxRecDepth 100000 in
set_option maxHeartbeats 3200000 in
theorem deep_group_ok (n : Nat) (hn : n ≤ 64) (w : World) : Calls Try.prog 4 #[.int .i64 n, .bool false] w fun e w' => e = .returned (.bool true) ∧ Gr w w' := by
  have h0 : ¬ (n : Int) < 0 := by omega
  have h100 : ¬ (100 : Int) < (n : Int) := by omega
  have h64 : ¬ (64 : Int) < (n : Int) := by omega
  go_enter Try.func4, Try.ntmps4
  go_wp2
  go_loop [5, 6] (fun s i => ∃ (k : Nat) (sb : ByteArray), k ≤ n ∧ i = .int .i64 k ∧ s = .string sb ∧ sb.data.toList = dpt false k) (fun _ i => n - (intOf i).toNat)
  case atStart => exact ⟨0, _, Nat.zero_le _, rfl, rfl, rfl⟩
  case round =>
    obtain ⟨k, sb, hk, rfl, rfl, hsb⟩ := hrel
    have hsz : sb.size ≤ 1 + 4 * k := by
      have := dpt_len false k
      rw [← hsb] at this
      simpa using this
    have HS := Lib.hid hsb
    clear hsb
    by_cases hlt : k < n
    · have hlt' : (k : Int) < (n : Int) := by omega
      have hb1 : (⟨#[40]⟩ ++ sb).size ≤ 9223372036854775807 := by rw [ByteArray.size_append]; show 1 + sb.size ≤ _; omega
      have hb2 : (⟨#[40]⟩ ++ sb ++ ⟨#[41]⟩).size ≤ 9223372036854775807 := by rw [ByteArray.size_append, ByteArray.size_append]; show 1 + sb.size + 1 ≤ _; omega
      go_wp2
      go_round
      case rel => exact ⟨k + 1, ⟨#[40]⟩ ++ sb ++ ⟨#[41]⟩, by omega, by go_num, rfl, by simp [ByteArray.data_append, HS.out, dpt, opn]⟩
      case measure => simp [intOf]; omega
    · have hge : ¬ (k : Int) < (n : Int) := by omega
      have hkn : k = n := by omega
      have HK := Lib.hid hkn
      clear hkn
      obtain ⟨e1, e2⟩ := err_deep_ok false n hn
      have HC : ∀ w, Calls Try.prog 7 #[.string sb] w fun e w' => ∃ A m c, e = .returned (.tuple #[.agg #[.int .i64 (n : Int), .slice A m c], .int .i64 0]) ∧ Gr w w' := fun w => by
        refine (compile_any sb (by omega) w).mono ?_
        rintro e w' ⟨A, c, he, hr, hg, hA⟩
        have h1 : errX sb.data.toList = 0 := by rw [HS.out, HK.out]; exact e1
        have h2 : grpX sb.data.toList = n := by unfold grpX; rw [h1, HS.out, HK.out, e2]; rfl
        rw [h1, h2] at he
        exact ⟨A, _, c, he, hg⟩
      clear e1 e2
      go_wp2_with (first | (go_at_call 7; refine (HC _).mono ?_; rintro e w1 ⟨A, m, c, rfl, hg⟩) | (go_at_call 9; refine (known_any _).mono ?_; rintro e w2 ⟨rfl, hg2⟩))
      go_ret
      exact ⟨rfl, (hg.alloc _).trans hg2⟩

set_option maxRecDepth 100000 in
set_option maxHeartbeats 3200000 in
theorem deep_group_no (n : Nat) (h64 : 64 < n) (hn : n ≤ 100) (w : World) : Calls Try.prog 4 #[.int .i64 n, .bool false] w fun e w' => e = .returned (.bool true) ∧ Gr w w' := by
  have h0 : ¬ (n : Int) < 0 := by omega
  have h100 : ¬ (100 : Int) < (n : Int) := by omega
  have h64i : (64 : Int) < (n : Int) := by omega
  go_enter Try.func4, Try.ntmps4
  go_wp2
  go_loop [5, 6] (fun s i => ∃ (k : Nat) (sb : ByteArray), k ≤ n ∧ i = .int .i64 k ∧ s = .string sb ∧ sb.data.toList = dpt false k) (fun _ i => n - (intOf i).toNat)
  case atStart => exact ⟨0, _, Nat.zero_le _, rfl, rfl, rfl⟩
  case round =>
    obtain ⟨k, sb, hk, rfl, rfl, hsb⟩ := hrel
    have hsz : sb.size ≤ 1 + 4 * k := by
      have := dpt_len false k
      rw [← hsb] at this
      simpa using this
    have HS := Lib.hid hsb
    clear hsb
    by_cases hlt : k < n
    · have hlt' : (k : Int) < (n : Int) := by omega
      have hb1 : (⟨#[40]⟩ ++ sb).size ≤ 9223372036854775807 := by rw [ByteArray.size_append]; show 1 + sb.size ≤ _; omega
      have hb2 : (⟨#[40]⟩ ++ sb ++ ⟨#[41]⟩).size ≤ 9223372036854775807 := by rw [ByteArray.size_append, ByteArray.size_append]; show 1 + sb.size + 1 ≤ _; omega
      go_wp2
      go_round
      case rel => exact ⟨k + 1, ⟨#[40]⟩ ++ sb ++ ⟨#[41]⟩, by omega, by go_num, rfl, by simp [ByteArray.data_append, HS.out, dpt, opn]⟩
      case measure => simp [intOf]; omega
    · have hge : ¬ (k : Int) < (n : Int) := by omega
      have hkn : k = n := by omega
      have HK := Lib.hid hkn
      clear hkn
      have e1 := err_deep_bad false n h64
      have HC : ∀ w, Calls Try.prog 7 #[.string sb] w fun e w' => ∃ A c, e = .returned (.tuple #[.agg #[.int .i64 0, .slice A 0 c], .int .i64 12]) ∧ Gr w w' := fun w => by
        refine (compile_any sb (by omega) w).mono ?_
        rintro e w' ⟨A, c, he, hr, hg, hA⟩
        have h1 : errX sb.data.toList = 12 := by rw [HS.out, HK.out]; exact e1
        have h2 : grpX sb.data.toList = 0 := by simp [grpX, h1]
        have h3 : (codeY sb.data.toList).length = 0 := by simp [codeY, h1]
        rw [h1, h2, h3] at he
        exact ⟨A, c, he, hg⟩
      clear e1
      go_wp2_with (first | (go_at_call 7; refine (HC _).mono ?_; rintro e w1 ⟨A, c, rfl, hg⟩) | (go_at_call 9; refine (known_any _).mono ?_; rintro e w2 ⟨rfl, hg2⟩))
      go_ret
      exact ⟨rfl, (hg.alloc _).trans hg2⟩

set_option maxRecDepth 100000 in
set_option maxHeartbeats 3200000 in
theorem deep_plain_ok (n : Nat) (hn : n ≤ 64) (w : World) : Calls Try.prog 4 #[.int .i64 n, .bool true] w fun e w' => e = .returned (.bool true) ∧ Gr w w' := by
  have h0 : ¬ (n : Int) < 0 := by omega
  have h100 : ¬ (100 : Int) < (n : Int) := by omega
  have h64 : ¬ (64 : Int) < (n : Int) := by omega
  go_enter Try.func4, Try.ntmps4
  go_wp2
  go_loop [5, 6] (fun s i => ∃ (k : Nat) (sb : ByteArray), k ≤ n ∧ i = .int .i64 k ∧ s = .string sb ∧ sb.data.toList = dpt true k) (fun _ i => n - (intOf i).toNat)
  case atStart => exact ⟨0, _, Nat.zero_le _, rfl, rfl, rfl⟩
  case round =>
    obtain ⟨k, sb, hk, rfl, rfl, hsb⟩ := hrel
    have hsz : sb.size ≤ 1 + 4 * k := by
      have := dpt_len true k
      rw [← hsb] at this
      simpa using this
    have HS := Lib.hid hsb
    clear hsb
    by_cases hlt : k < n
    · have hlt' : (k : Int) < (n : Int) := by omega
      have hb1 : (⟨#[40, 63, 58]⟩ ++ sb).size ≤ 9223372036854775807 := by rw [ByteArray.size_append]; show 3 + sb.size ≤ _; omega
      have hb2 : (⟨#[40, 63, 58]⟩ ++ sb ++ ⟨#[41]⟩).size ≤ 9223372036854775807 := by rw [ByteArray.size_append, ByteArray.size_append]; show 3 + sb.size + 1 ≤ _; omega
      go_wp2
      go_round
      case rel => exact ⟨k + 1, ⟨#[40, 63, 58]⟩ ++ sb ++ ⟨#[41]⟩, by omega, by go_num, rfl, by simp [ByteArray.data_append, HS.out, dpt, opn]⟩
      case measure => simp [intOf]; omega
    · have hge : ¬ (k : Int) < (n : Int) := by omega
      have hkn : k = n := by omega
      have HK := Lib.hid hkn
      clear hkn
      obtain ⟨e1, e2⟩ := err_deep_ok true n hn
      have HC : ∀ w, Calls Try.prog 7 #[.string sb] w fun e w' => ∃ A m c, e = .returned (.tuple #[.agg #[.int .i64 0, .slice A m c], .int .i64 0]) ∧ Gr w w' := fun w => by
        refine (compile_any sb (by omega) w).mono ?_
        rintro e w' ⟨A, c, he, hr, hg, hA⟩
        have h1 : errX sb.data.toList = 0 := by rw [HS.out, HK.out]; exact e1
        have h2 : grpX sb.data.toList = 0 := by unfold grpX; rw [h1, HS.out, HK.out, e2]; rfl
        rw [h1, h2] at he
        exact ⟨A, _, c, he, hg⟩
      clear e1 e2
      go_wp2_with (first | (go_at_call 7; refine (HC _).mono ?_; rintro e w1 ⟨A, m, c, rfl, hg⟩) | (go_at_call 9; refine (known_any _).mono ?_; rintro e w2 ⟨rfl, hg2⟩))
      go_ret
      exact ⟨rfl, (hg.alloc _).trans hg2⟩

set_option maxRecDepth 100000 in
set_option maxHeartbeats 3200000 in
theorem deep_plain_no (n : Nat) (h64 : 64 < n) (hn : n ≤ 100) (w : World) : Calls Try.prog 4 #[.int .i64 n, .bool true] w fun e w' => e = .returned (.bool true) ∧ Gr w w' := by
  have h0 : ¬ (n : Int) < 0 := by omega
  have h100 : ¬ (100 : Int) < (n : Int) := by omega
  have h64i : (64 : Int) < (n : Int) := by omega
  go_enter Try.func4, Try.ntmps4
  go_wp2
  go_loop [5, 6] (fun s i => ∃ (k : Nat) (sb : ByteArray), k ≤ n ∧ i = .int .i64 k ∧ s = .string sb ∧ sb.data.toList = dpt true k) (fun _ i => n - (intOf i).toNat)
  case atStart => exact ⟨0, _, Nat.zero_le _, rfl, rfl, rfl⟩
  case round =>
    obtain ⟨k, sb, hk, rfl, rfl, hsb⟩ := hrel
    have hsz : sb.size ≤ 1 + 4 * k := by
      have := dpt_len true k
      rw [← hsb] at this
      simpa using this
    have HS := Lib.hid hsb
    clear hsb
    by_cases hlt : k < n
    · have hlt' : (k : Int) < (n : Int) := by omega
      have hb1 : (⟨#[40, 63, 58]⟩ ++ sb).size ≤ 9223372036854775807 := by rw [ByteArray.size_append]; show 3 + sb.size ≤ _; omega
      have hb2 : (⟨#[40, 63, 58]⟩ ++ sb ++ ⟨#[41]⟩).size ≤ 9223372036854775807 := by rw [ByteArray.size_append, ByteArray.size_append]; show 3 + sb.size + 1 ≤ _; omega
      go_wp2
      go_round
      case rel => exact ⟨k + 1, ⟨#[40, 63, 58]⟩ ++ sb ++ ⟨#[41]⟩, by omega, by go_num, rfl, by simp [ByteArray.data_append, HS.out, dpt, opn]⟩
      case measure => simp [intOf]; omega
    · have hge : ¬ (k : Int) < (n : Int) := by omega
      have hkn : k = n := by omega
      have HK := Lib.hid hkn
      clear hkn
      have e1 := err_deep_bad true n h64
      have HC : ∀ w, Calls Try.prog 7 #[.string sb] w fun e w' => ∃ A c, e = .returned (.tuple #[.agg #[.int .i64 0, .slice A 0 c], .int .i64 12]) ∧ Gr w w' := fun w => by
        refine (compile_any sb (by omega) w).mono ?_
        rintro e w' ⟨A, c, he, hr, hg, hA⟩
        have h1 : errX sb.data.toList = 12 := by rw [HS.out, HK.out]; exact e1
        have h2 : grpX sb.data.toList = 0 := by simp [grpX, h1]
        have h3 : (codeY sb.data.toList).length = 0 := by simp [codeY, h1]
        rw [h1, h2, h3] at he
        exact ⟨A, c, he, hg⟩
      clear e1
      go_wp2_with (first | (go_at_call 7; refine (HC _).mono ?_; rintro e w1 ⟨A, c, rfl, hg⟩) | (go_at_call 9; refine (known_any _).mono ?_; rintro e w2 ⟨rfl, hg2⟩))
      go_ret
      exact ⟨rfl, (hg.alloc _).trans hg2⟩

set_option maxRecDepth 100000 in
set_option maxHeartbeats 3200000 in
theorem law_RexDeep (n : Int) (b : Bool) (w : World) : Calls Try.prog 4 #[.int .i64 n, .bool b] w fun e w' => e = .returned (.bool true) ∧ Gr w w' := by
  by_cases h0 : n < 0
  · go_enter Try.func4, Try.ntmps4
    go_wp2_with (go_at_call 9; refine (known_any _).mono ?_; rintro e w2 ⟨rfl, hg2⟩)
    go_ret
    exact ⟨rfl, hg2⟩
  · by_cases h1 : 100 < n
    · go_enter Try.func4, Try.ntmps4
      go_wp2_with (go_at_call 9; refine (known_any _).mono ?_; rintro e w2 ⟨rfl, hg2⟩)
      go_ret
      exact ⟨rfl, hg2⟩
    · obtain ⟨k, rfl⟩ : ∃ k : Nat, n = k := ⟨n.toNat, by omega⟩
      by_cases h2 : k ≤ 64
      · cases b
        · exact deep_group_ok k h2 w
        · exact deep_plain_ok k h2 w
      · cases b
        · exact deep_group_no k (by omega) (by omega) w
        · exact deep_plain_no k (by omega) (by omega) w
end Go.Proofs.Ytpcmdijgepbilaa
