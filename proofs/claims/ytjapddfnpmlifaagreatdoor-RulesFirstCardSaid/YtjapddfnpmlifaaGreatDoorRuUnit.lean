/- Digits ahead, signs, units: span of the program, chapter 16 of the reference. -/
import Derived.Test.YtjapddfnpmlifaaGreatDoorRuWholeR
namespace Go.Proofs.YtjapddfnpmlifaaGreatDoor
set_option linter.unusedVariables false
set_option linter.unusedSimpArgs false
open Go.RowKit

theorem ret_i {a b : Int} (h : a = b) : Ending.returned (.int .i64 a) = .returned (.int .i64 b) := by rw [h]
theorem sign_no {s : ByteArray} (h : signB s.data.toList = false) : ∃ h0 : (0 : Int) < (s.size : Int), (((s[0]'(by omega)).toNat : Int) == 45) = false ∧ (((s[0]'(by omega)).toNat : Int) == 43) = false ∧ s.toList.isEmpty = false ∧ s.data.toList.isEmpty = false ∧ (s.toList == []) = false := by
 have h0 : 0 < s.size := by
  rcases Nat.eq_zero_or_pos s.size with e | e
  ·
   obtain rfl : s = ⟨#[]⟩ := by
    apply ByteArray.ext; apply Array.eq_empty_of_size_eq_zero; exact e
   cases h
  ·
   exact e
 have hl : 0 < s.data.toList.length := by simpa using h0
 have hc : s.data.toList = s[0] :: s.data.toList.drop 1 := by
  have := List.drop_eq_getElem_cons hl
  rwa [List.drop_zero] at this
 have hb : (s[0] == 45 || s[0] == 43) = false := by rw [hc] at h; exact h
 rw [Bool.or_eq_false_iff, beq_eq_false_iff_ne, beq_eq_false_iff_ne] at hb
 have key : ∀ n : UInt8, s[0] ≠ n → ((s[0].toNat : Int) == (n.toNat : Int)) = false := fun n hn => by
  rw [beq_eq_false_iff_ne]
  intro e
  apply hn
  rw [← UInt8.toNat_inj]
  omega
 refine ⟨by omega, key 45 hb.1, key 43 hb.2, by rw [toList_data_ru]; rw [List.isEmpty_eq_false_iff]; exact ne_nil (by omega), by rw [List.isEmpty_eq_false_iff]; exact ne_nil (by omega), by rw [toList_data_ru, beq_eq_false_iff_ne]; exact ne_nil (by omega)⟩
theorem dgN_at (s : ByteArray) (k : Nat) (h : k < s.size) : dgN (s.data.toList.drop k) = bif isDg s[k] then dgN (s.data.toList.drop (k + 1)) + 1 else 0 := by
 rw [List.drop_eq_getElem_cons (by simpa using h)]
 rfl
set_option maxRecDepth 100000 in
set_option maxHeartbeats 6400000 in
theorem span_digits (s : ByteArray) (hs : (s.size : Int) ≤ 4096) (w : World) : Calls Tryz.prog 123 #[.string s] w fun e w' => e = .returned (.int .i64 (dgN s.data.toList : Nat)) ∧ w = w' := by
 go_enter Tryz.func123, Tryz.ntmps123
 go_wp2
 go_loop [3] (fun i => ∃ k : Nat, k ≤ s.size ∧ i = .int .i64 k ∧ k + dgN (s.data.toList.drop k) = dgN s.data.toList) (fun i => s.size - (intOf i).toNat)
 case atStart => exact ⟨0, Nat.zero_le _, rfl, by simp⟩
 case round =>
  obtain ⟨k, hk, rfl, ha⟩ := hrel
  have Ha := Lib.hid ha
  clear ha
  by_cases hlt : k < s.size
  ·
   have hlt' : (k : Int) < (s.size : Int) := by omega
   have ht := dgN_at s k hlt
   have HD := span_digit s[k]
   have ha := Ha.out
   rw [ht] at ha
   cases hd : isDg s[k]
   ·
    rw [hd] at HD ha
    have Hn : Hid (k = dgN s.data.toList) := Lib.hid (by simpa using ha)
    clear ht hd ha
    go_wp2_with (go_at_call 142; refine (HD _).mono ?_; rintro e w' ⟨rfl, rfl⟩)
    go_ret
    exact ⟨ret_i (by rw [← Hn.out]), rfl⟩
   ·
    rw [hd] at HD ha
    have Ht : Hid (k + 1 + dgN (s.data.toList.drop (k + 1)) = dgN s.data.toList) := Lib.hid (by simp only [cond_true] at ha; omega)
    clear ht hd ha
    go_wp2_with (go_at_call 142; refine (HD _).mono ?_; rintro e w' ⟨rfl, rfl⟩)
    go_round
    case rel => exact ⟨k + 1, by omega, by go_num, Ht.out⟩
    case measure => simp [intOf]; omega
  ·
   have hks : k = s.size := by omega
   have hge : ¬ (k : Int) < (s.size : Int) := by omega
   have Hn : Hid (k = dgN s.data.toList) := Lib.hid (by
    have := Ha.out
    rw [List.drop_eq_nil_of_le (by simp; omega)] at this
    simpa [dgN] using this)
   clear hks
   go_wp2
   go_ret
   exact ⟨ret_i (by rw [← Hn.out]), rfl⟩

set_option maxRecDepth 100000 in
set_option maxHeartbeats 6400000 in
theorem span_signed (s : ByteArray) (h : signB s.data.toList = false) (w : World) : Calls Tryz.prog 122 #[.string s] w fun e w' => e = .returned (.bool false) ∧ w = w' := by
 obtain ⟨h0, h45, h43, n1, n2, n3⟩ := sign_no h
 clear h
 go_enter Tryz.func122, Tryz.ntmps122
 go_wp2
 go_ret
 exact ⟨rfl, rfl⟩

theorem str_eq (s : ByteArray) (l : List UInt8) : (s.toList == l) = (s.data.toList == l) := by rw [toList_data_ru]
/-- a row of texts. -/
def Strs (w : World) (b : Nat) (m : List (List UInt8)) : Prop := ∀ k (h : k < m.length), w.cell? ⟨b, k, none⟩ = some (.string ⟨m[k].toArray⟩)
theorem inL_take (l : List UInt8) (m : List (List UInt8)) (k : Nat) (h : k < m.length) : inLU l (m.take (k + 1)) = (inLU l (m.take k) || (m[k] == l)) := by
 unfold inLU
 rw [List.take_succ_eq_append_getElem h, List.any_append]
 simp only [List.any_cons, List.any_nil, Bool.or_false]
theorem inL_of {l : List UInt8} {m : List (List UInt8)} {k : Nat} (h : inLU l (m.take k) = true) : inLU l m = true := by
 unfold inLU at *
 rw [List.any_eq_true] at *
 obtain ⟨x, hx, he⟩ := h
 exact ⟨x, List.mem_of_mem_take hx, he⟩
set_option maxRecDepth 100000 in
set_option maxHeartbeats 6400000 in
theorem among_any (s : ByteArray) (m : List (List UInt8)) (hm : (m.length : Int) ≤ 10) (b c : Nat) (w : World) (hS : Strs w b m) : Calls Tryz.prog 143 #[.string s, .slice (some ⟨b, 0, none⟩) m.length c] w fun e w' => e = .returned (.bool (inLU s.data.toList m)) ∧ w = w' := by
 have HS := Lib.hid hS
 obtain ⟨n, hn⟩ : ∃ n, n = m.length := ⟨_, rfl⟩
 rw [← hn] at hm ⊢
 have Hn := Lib.hid hn
 clear hS hn
 go_enter Tryz.func143, Tryz.ntmps143
 go_wp2
 go_loop [9] (fun i => ∃ k : Nat, k ≤ n ∧ i = .int .i64 k ∧ inLU s.data.toList (m.take k) = false) (fun i => n - (intOf i).toNat)
 case atStart => exact ⟨0, Nat.zero_le _, rfl, rfl⟩
 case round =>
  obtain ⟨k, hk, rfl, ha⟩ := hrel
  have Ha := Lib.hid ha
  clear ha
  by_cases hlt : k < n
  ·
   have hlt' : (k : Int) < (n : Int) := by omega
   have hkm : k < m.length := by rw [← Hn.out]; exact hlt
   have hc := HS.out k hkm
   have ht := inL_take s.data.toList m k hkm
   rw [Ha.out, Bool.false_or] at ht
   have he : ((⟨m[k].toArray⟩ : ByteArray).toList == s.toList) = (m[k] == s.data.toList) := by rw [toList_data_ru, toList_data_ru]
   obtain ⟨x, hx⟩ : ∃ x : ByteArray, x = ⟨m[k].toArray⟩ := ⟨_, rfl⟩
   rw [← hx] at hc he
   cases hb : (m[k] == s.data.toList)
   ·
    rw [hb] at ht he
    have Ht := Lib.hid ht
    clear hx hb ht
    go_wp2
    go_round
    case rel => exact ⟨k + 1, by omega, by go_num, Ht.out⟩
    case measure => simp [intOf]; omega
   ·
    rw [hb] at ht he
    have Ht := Lib.hid (inL_of ht)
    clear hx hb ht
    go_wp2
    go_ret
    exact ⟨ret_b Ht.out.symm, rfl⟩
  ·
   have hks : k = n := by omega
   have hge : ¬ (k : Int) < (n : Int) := by omega
   have Hx : Hid (inLU s.data.toList m = false) := Lib.hid (by
    have := Ha.out
    rwa [List.take_of_length_le (by rw [← Hn.out]; omega)] at this)
   clear hks
   go_wp2
   go_ret
   exact ⟨ret_b Hx.out.symm, rfl⟩
def allN : List (List UInt8) := [[115], [115, 101, 99], [115, 101, 99, 115], [115, 101, 99, 111, 110, 100], [115, 101, 99, 111, 110, 100, 115], [109, 105, 110], [109, 105, 110, 115], [109, 105, 110, 117, 116, 101], [109, 105, 110, 117, 116, 101, 115], [104], [104, 111, 117, 114], [104, 111, 117, 114, 115], [100], [100, 97, 121], [100, 97, 121, 115], [119], [119, 101, 101, 107], [119, 101, 101, 107, 115], [109, 111, 110], [109, 111, 110, 116, 104], [109, 111, 110, 116, 104, 115], [121], [121, 101, 97, 114], [121, 101, 97, 114, 115]]
theorem unit_none {l : List UInt8} (h : ∀ k (hk : k < 24), (l == allN[k]) = false) : unitS l = 0 := by
 have key : ∀ x, x ∈ allN → (x == l) = false := fun x hx => by
  obtain ⟨k, hk, e⟩ := List.getElem_of_mem hx
  have := beq_eq_false_iff_ne.1 (h k hk)
  rw [e] at this
  exact beq_eq_false_iff_ne.2 (Ne.symm this)
 have k2 : ∀ m : List (List UInt8), (∀ x ∈ m, x ∈ allN) → inLU l m = false := fun m hm => by
  unfold inLU
  rw [List.any_eq_false]
  intro x hx
  rw [key x (hm x hx)]
  decide
 unfold unitS names
 simp only [unitF]
 rw [k2 _ (by decide), k2 _ (by decide), k2 _ (by decide), k2 _ (by decide), k2 _ (by decide), k2 _ (by decide), k2 _ (by decide)]
 rfl
set_option maxRecDepth 100000 in
set_option maxHeartbeats 6400000 in
theorem ref_unit_none (s : ByteArray) (hn : ∀ k (hk : k < 24), (s.data.toList == allN[k]) = false) (w : World) : Calls Tryz.prog 128 #[.string s] w fun e w' => e = .returned (.int .i64 0) ∧ w = w' := by
 have h0 : (s.toList == [115]) = false := by rw [str_eq]; exact hn 0 (by decide)
 have h1 : (s.toList == [115, 101, 99]) = false := by rw [str_eq]; exact hn 1 (by decide)
 have h2 : (s.toList == [115, 101, 99, 115]) = false := by rw [str_eq]; exact hn 2 (by decide)
 have h3 : (s.toList == [115, 101, 99, 111, 110, 100]) = false := by rw [str_eq]; exact hn 3 (by decide)
 have h4 : (s.toList == [115, 101, 99, 111, 110, 100, 115]) = false := by rw [str_eq]; exact hn 4 (by decide)
 have h5 : (s.toList == [109, 105, 110]) = false := by rw [str_eq]; exact hn 5 (by decide)
 have h6 : (s.toList == [109, 105, 110, 115]) = false := by rw [str_eq]; exact hn 6 (by decide)
 have h7 : (s.toList == [109, 105, 110, 117, 116, 101]) = false := by rw [str_eq]; exact hn 7 (by decide)
 have h8 : (s.toList == [109, 105, 110, 117, 116, 101, 115]) = false := by rw [str_eq]; exact hn 8 (by decide)
 have h9 : (s.toList == [104]) = false := by rw [str_eq]; exact hn 9 (by decide)
 have h10 : (s.toList == [104, 111, 117, 114]) = false := by rw [str_eq]; exact hn 10 (by decide)
 have h11 : (s.toList == [104, 111, 117, 114, 115]) = false := by rw [str_eq]; exact hn 11 (by decide)
 have h12 : (s.toList == [100]) = false := by rw [str_eq]; exact hn 12 (by decide)
 have h13 : (s.toList == [100, 97, 121]) = false := by rw [str_eq]; exact hn 13 (by decide)
 have h14 : (s.toList == [100, 97, 121, 115]) = false := by rw [str_eq]; exact hn 14 (by decide)
 have h15 : (s.toList == [119]) = false := by rw [str_eq]; exact hn 15 (by decide)
 have h16 : (s.toList == [119, 101, 101, 107]) = false := by rw [str_eq]; exact hn 16 (by decide)
 have h17 : (s.toList == [119, 101, 101, 107, 115]) = false := by rw [str_eq]; exact hn 17 (by decide)
 have h18 : (s.toList == [109, 111, 110]) = false := by rw [str_eq]; exact hn 18 (by decide)
 have h19 : (s.toList == [109, 111, 110, 116, 104]) = false := by rw [str_eq]; exact hn 19 (by decide)
 have h20 : (s.toList == [109, 111, 110, 116, 104, 115]) = false := by rw [str_eq]; exact hn 20 (by decide)
 have h21 : (s.toList == [121]) = false := by rw [str_eq]; exact hn 21 (by decide)
 have h22 : (s.toList == [121, 101, 97, 114]) = false := by rw [str_eq]; exact hn 22 (by decide)
 have h23 : (s.toList == [121, 101, 97, 114, 115]) = false := by rw [str_eq]; exact hn 23 (by decide)
 clear hn
 go_enter Tryz.func128, Tryz.ntmps128
 go_wp2
 go_ret
 exact ⟨rfl, rfl⟩
set_option maxRecDepth 100000 in
set_option maxHeartbeats 6400000 in
theorem ref_unit_0 (w : World) : Calls Tryz.prog 128 #[.string ⟨#[115]⟩] w fun e w' => e = .returned (.int .i64 1) ∧ w = w' := by
 go_enter Tryz.func128, Tryz.ntmps128
 go_wp2
 go_ret
 exact ⟨rfl, rfl⟩
set_option maxRecDepth 100000 in
set_option maxHeartbeats 6400000 in
theorem ref_unit_1 (w : World) : Calls Tryz.prog 128 #[.string ⟨#[115, 101, 99]⟩] w fun e w' => e = .returned (.int .i64 1) ∧ w = w' := by
 go_enter Tryz.func128, Tryz.ntmps128
 go_wp2
 go_ret
 exact ⟨rfl, rfl⟩
set_option maxRecDepth 100000 in
set_option maxHeartbeats 6400000 in
theorem ref_unit_2 (w : World) : Calls Tryz.prog 128 #[.string ⟨#[115, 101, 99, 115]⟩] w fun e w' => e = .returned (.int .i64 1) ∧ w = w' := by
 go_enter Tryz.func128, Tryz.ntmps128
 go_wp2
 go_ret
 exact ⟨rfl, rfl⟩
set_option maxRecDepth 100000 in
set_option maxHeartbeats 6400000 in
theorem ref_unit_3 (w : World) : Calls Tryz.prog 128 #[.string ⟨#[115, 101, 99, 111, 110, 100]⟩] w fun e w' => e = .returned (.int .i64 1) ∧ w = w' := by
 go_enter Tryz.func128, Tryz.ntmps128
 go_wp2
 go_ret
 exact ⟨rfl, rfl⟩
set_option maxRecDepth 100000 in
set_option maxHeartbeats 6400000 in
theorem ref_unit_4 (w : World) : Calls Tryz.prog 128 #[.string ⟨#[115, 101, 99, 111, 110, 100, 115]⟩] w fun e w' => e = .returned (.int .i64 1) ∧ w = w' := by
 go_enter Tryz.func128, Tryz.ntmps128
 go_wp2
 go_ret
 exact ⟨rfl, rfl⟩
set_option maxRecDepth 100000 in
set_option maxHeartbeats 6400000 in
theorem ref_unit_5 (w : World) : Calls Tryz.prog 128 #[.string ⟨#[109, 105, 110]⟩] w fun e w' => e = .returned (.int .i64 60) ∧ w = w' := by
 go_enter Tryz.func128, Tryz.ntmps128
 go_wp2
 go_ret
 exact ⟨rfl, rfl⟩
set_option maxRecDepth 100000 in
set_option maxHeartbeats 6400000 in
theorem ref_unit_6 (w : World) : Calls Tryz.prog 128 #[.string ⟨#[109, 105, 110, 115]⟩] w fun e w' => e = .returned (.int .i64 60) ∧ w = w' := by
 go_enter Tryz.func128, Tryz.ntmps128
 go_wp2
 go_ret
 exact ⟨rfl, rfl⟩
set_option maxRecDepth 100000 in
set_option maxHeartbeats 6400000 in
theorem ref_unit_7 (w : World) : Calls Tryz.prog 128 #[.string ⟨#[109, 105, 110, 117, 116, 101]⟩] w fun e w' => e = .returned (.int .i64 60) ∧ w = w' := by
 go_enter Tryz.func128, Tryz.ntmps128
 go_wp2
 go_ret
 exact ⟨rfl, rfl⟩
set_option maxRecDepth 100000 in
set_option maxHeartbeats 6400000 in
theorem ref_unit_8 (w : World) : Calls Tryz.prog 128 #[.string ⟨#[109, 105, 110, 117, 116, 101, 115]⟩] w fun e w' => e = .returned (.int .i64 60) ∧ w = w' := by
 go_enter Tryz.func128, Tryz.ntmps128
 go_wp2
 go_ret
 exact ⟨rfl, rfl⟩
set_option maxRecDepth 100000 in
set_option maxHeartbeats 6400000 in
theorem ref_unit_9 (w : World) : Calls Tryz.prog 128 #[.string ⟨#[104]⟩] w fun e w' => e = .returned (.int .i64 3600) ∧ w = w' := by
 go_enter Tryz.func128, Tryz.ntmps128
 go_wp2
 go_ret
 exact ⟨rfl, rfl⟩
set_option maxRecDepth 100000 in
set_option maxHeartbeats 6400000 in
theorem ref_unit_10 (w : World) : Calls Tryz.prog 128 #[.string ⟨#[104, 111, 117, 114]⟩] w fun e w' => e = .returned (.int .i64 3600) ∧ w = w' := by
 go_enter Tryz.func128, Tryz.ntmps128
 go_wp2
 go_ret
 exact ⟨rfl, rfl⟩
set_option maxRecDepth 100000 in
set_option maxHeartbeats 6400000 in
theorem ref_unit_11 (w : World) : Calls Tryz.prog 128 #[.string ⟨#[104, 111, 117, 114, 115]⟩] w fun e w' => e = .returned (.int .i64 3600) ∧ w = w' := by
 go_enter Tryz.func128, Tryz.ntmps128
 go_wp2
 go_ret
 exact ⟨rfl, rfl⟩
set_option maxRecDepth 100000 in
set_option maxHeartbeats 6400000 in
theorem ref_unit_12 (w : World) : Calls Tryz.prog 128 #[.string ⟨#[100]⟩] w fun e w' => e = .returned (.int .i64 86400) ∧ w = w' := by
 go_enter Tryz.func128, Tryz.ntmps128
 go_wp2
 go_ret
 exact ⟨rfl, rfl⟩
set_option maxRecDepth 100000 in
set_option maxHeartbeats 6400000 in
theorem ref_unit_13 (w : World) : Calls Tryz.prog 128 #[.string ⟨#[100, 97, 121]⟩] w fun e w' => e = .returned (.int .i64 86400) ∧ w = w' := by
 go_enter Tryz.func128, Tryz.ntmps128
 go_wp2
 go_ret
 exact ⟨rfl, rfl⟩
set_option maxRecDepth 100000 in
set_option maxHeartbeats 6400000 in
theorem ref_unit_14 (w : World) : Calls Tryz.prog 128 #[.string ⟨#[100, 97, 121, 115]⟩] w fun e w' => e = .returned (.int .i64 86400) ∧ w = w' := by
 go_enter Tryz.func128, Tryz.ntmps128
 go_wp2
 go_ret
 exact ⟨rfl, rfl⟩
set_option maxRecDepth 100000 in
set_option maxHeartbeats 6400000 in
theorem ref_unit_15 (w : World) : Calls Tryz.prog 128 #[.string ⟨#[119]⟩] w fun e w' => e = .returned (.int .i64 604800) ∧ w = w' := by
 go_enter Tryz.func128, Tryz.ntmps128
 go_wp2
 go_ret
 exact ⟨rfl, rfl⟩
set_option maxRecDepth 100000 in
set_option maxHeartbeats 6400000 in
theorem ref_unit_16 (w : World) : Calls Tryz.prog 128 #[.string ⟨#[119, 101, 101, 107]⟩] w fun e w' => e = .returned (.int .i64 604800) ∧ w = w' := by
 go_enter Tryz.func128, Tryz.ntmps128
 go_wp2
 go_ret
 exact ⟨rfl, rfl⟩
set_option maxRecDepth 100000 in
set_option maxHeartbeats 6400000 in
theorem ref_unit_17 (w : World) : Calls Tryz.prog 128 #[.string ⟨#[119, 101, 101, 107, 115]⟩] w fun e w' => e = .returned (.int .i64 604800) ∧ w = w' := by
 go_enter Tryz.func128, Tryz.ntmps128
 go_wp2
 go_ret
 exact ⟨rfl, rfl⟩
set_option maxRecDepth 100000 in
set_option maxHeartbeats 6400000 in
theorem ref_unit_18 (w : World) : Calls Tryz.prog 128 #[.string ⟨#[109, 111, 110]⟩] w fun e w' => e = .returned (.int .i64 2592000) ∧ w = w' := by
 go_enter Tryz.func128, Tryz.ntmps128
 go_wp2
 go_ret
 exact ⟨rfl, rfl⟩
set_option maxRecDepth 100000 in
set_option maxHeartbeats 6400000 in
theorem ref_unit_19 (w : World) : Calls Tryz.prog 128 #[.string ⟨#[109, 111, 110, 116, 104]⟩] w fun e w' => e = .returned (.int .i64 2592000) ∧ w = w' := by
 go_enter Tryz.func128, Tryz.ntmps128
 go_wp2
 go_ret
 exact ⟨rfl, rfl⟩
set_option maxRecDepth 100000 in
set_option maxHeartbeats 6400000 in
theorem ref_unit_20 (w : World) : Calls Tryz.prog 128 #[.string ⟨#[109, 111, 110, 116, 104, 115]⟩] w fun e w' => e = .returned (.int .i64 2592000) ∧ w = w' := by
 go_enter Tryz.func128, Tryz.ntmps128
 go_wp2
 go_ret
 exact ⟨rfl, rfl⟩
set_option maxRecDepth 100000 in
set_option maxHeartbeats 6400000 in
theorem ref_unit_21 (w : World) : Calls Tryz.prog 128 #[.string ⟨#[121]⟩] w fun e w' => e = .returned (.int .i64 31536000) ∧ w = w' := by
 go_enter Tryz.func128, Tryz.ntmps128
 go_wp2
 go_ret
 exact ⟨rfl, rfl⟩
set_option maxRecDepth 100000 in
set_option maxHeartbeats 6400000 in
theorem ref_unit_22 (w : World) : Calls Tryz.prog 128 #[.string ⟨#[121, 101, 97, 114]⟩] w fun e w' => e = .returned (.int .i64 31536000) ∧ w = w' := by
 go_enter Tryz.func128, Tryz.ntmps128
 go_wp2
 go_ret
 exact ⟨rfl, rfl⟩
set_option maxRecDepth 100000 in
set_option maxHeartbeats 6400000 in
theorem ref_unit_23 (w : World) : Calls Tryz.prog 128 #[.string ⟨#[121, 101, 97, 114, 115]⟩] w fun e w' => e = .returned (.int .i64 31536000) ∧ w = w' := by
 go_enter Tryz.func128, Tryz.ntmps128
 go_wp2
 go_ret
 exact ⟨rfl, rfl⟩
theorem ref_unit (s : ByteArray) (w : World) : Calls Tryz.prog 128 #[.string s] w fun e w' => e = .returned (.int .i64 (unitS s.data.toList : Nat)) ∧ w = w' := by
 have hx : ∀ l : List UInt8, s.data.toList = l → s = ⟨l.toArray⟩ := fun l h => by apply ByteArray.ext; rw [← h, Array.toArray_toList]
 by_cases e0 : s.data.toList = [115]
 ·
  have := hx _ e0
  subst this
  exact ref_unit_0 w
 by_cases e1 : s.data.toList = [115, 101, 99]
 ·
  have := hx _ e1
  subst this
  exact ref_unit_1 w
 by_cases e2 : s.data.toList = [115, 101, 99, 115]
 ·
  have := hx _ e2
  subst this
  exact ref_unit_2 w
 by_cases e3 : s.data.toList = [115, 101, 99, 111, 110, 100]
 ·
  have := hx _ e3
  subst this
  exact ref_unit_3 w
 by_cases e4 : s.data.toList = [115, 101, 99, 111, 110, 100, 115]
 ·
  have := hx _ e4
  subst this
  exact ref_unit_4 w
 by_cases e5 : s.data.toList = [109, 105, 110]
 ·
  have := hx _ e5
  subst this
  exact ref_unit_5 w
 by_cases e6 : s.data.toList = [109, 105, 110, 115]
 ·
  have := hx _ e6
  subst this
  exact ref_unit_6 w
 by_cases e7 : s.data.toList = [109, 105, 110, 117, 116, 101]
 ·
  have := hx _ e7
  subst this
  exact ref_unit_7 w
 by_cases e8 : s.data.toList = [109, 105, 110, 117, 116, 101, 115]
 ·
  have := hx _ e8
  subst this
  exact ref_unit_8 w
 by_cases e9 : s.data.toList = [104]
 ·
  have := hx _ e9
  subst this
  exact ref_unit_9 w
 by_cases e10 : s.data.toList = [104, 111, 117, 114]
 ·
  have := hx _ e10
  subst this
  exact ref_unit_10 w
 by_cases e11 : s.data.toList = [104, 111, 117, 114, 115]
 ·
  have := hx _ e11
  subst this
  exact ref_unit_11 w
 by_cases e12 : s.data.toList = [100]
 ·
  have := hx _ e12
  subst this
  exact ref_unit_12 w
 by_cases e13 : s.data.toList = [100, 97, 121]
 ·
  have := hx _ e13
  subst this
  exact ref_unit_13 w
 by_cases e14 : s.data.toList = [100, 97, 121, 115]
 ·
  have := hx _ e14
  subst this
  exact ref_unit_14 w
 by_cases e15 : s.data.toList = [119]
 ·
  have := hx _ e15
  subst this
  exact ref_unit_15 w
 by_cases e16 : s.data.toList = [119, 101, 101, 107]
 ·
  have := hx _ e16
  subst this
  exact ref_unit_16 w
 by_cases e17 : s.data.toList = [119, 101, 101, 107, 115]
 ·
  have := hx _ e17
  subst this
  exact ref_unit_17 w
 by_cases e18 : s.data.toList = [109, 111, 110]
 ·
  have := hx _ e18
  subst this
  exact ref_unit_18 w
 by_cases e19 : s.data.toList = [109, 111, 110, 116, 104]
 ·
  have := hx _ e19
  subst this
  exact ref_unit_19 w
 by_cases e20 : s.data.toList = [109, 111, 110, 116, 104, 115]
 ·
  have := hx _ e20
  subst this
  exact ref_unit_20 w
 by_cases e21 : s.data.toList = [121]
 ·
  have := hx _ e21
  subst this
  exact ref_unit_21 w
 by_cases e22 : s.data.toList = [121, 101, 97, 114]
 ·
  have := hx _ e22
  subst this
  exact ref_unit_22 w
 by_cases e23 : s.data.toList = [121, 101, 97, 114, 115]
 ·
  have := hx _ e23
  subst this
  exact ref_unit_23 w
 have hn : ∀ k (hk : k < 24), (s.data.toList == allN[k]) = false := fun k hk => by
  match k, hk with
  | 0, _ => exact beq_eq_false_iff_ne.2 e0
  | 1, _ => exact beq_eq_false_iff_ne.2 e1
  | 2, _ => exact beq_eq_false_iff_ne.2 e2
  | 3, _ => exact beq_eq_false_iff_ne.2 e3
  | 4, _ => exact beq_eq_false_iff_ne.2 e4
  | 5, _ => exact beq_eq_false_iff_ne.2 e5
  | 6, _ => exact beq_eq_false_iff_ne.2 e6
  | 7, _ => exact beq_eq_false_iff_ne.2 e7
  | 8, _ => exact beq_eq_false_iff_ne.2 e8
  | 9, _ => exact beq_eq_false_iff_ne.2 e9
  | 10, _ => exact beq_eq_false_iff_ne.2 e10
  | 11, _ => exact beq_eq_false_iff_ne.2 e11
  | 12, _ => exact beq_eq_false_iff_ne.2 e12
  | 13, _ => exact beq_eq_false_iff_ne.2 e13
  | 14, _ => exact beq_eq_false_iff_ne.2 e14
  | 15, _ => exact beq_eq_false_iff_ne.2 e15
  | 16, _ => exact beq_eq_false_iff_ne.2 e16
  | 17, _ => exact beq_eq_false_iff_ne.2 e17
  | 18, _ => exact beq_eq_false_iff_ne.2 e18
  | 19, _ => exact beq_eq_false_iff_ne.2 e19
  | 20, _ => exact beq_eq_false_iff_ne.2 e20
  | 21, _ => exact beq_eq_false_iff_ne.2 e21
  | 22, _ => exact beq_eq_false_iff_ne.2 e22
  | 23, _ => exact beq_eq_false_iff_ne.2 e23
  | k + 24, hk => exact absurd hk (by omega)
 rw [unit_none hn]
 exact ref_unit_none s hn w
theorem strs_new (w : World) (m : List (List UInt8)) (vs : Array Value) (hv : ∀ k (h : k < m.length), vs[k]? = some (.string ⟨m[k].toArray⟩)) : Strs (w.alloc (.cells vs 9)) w.heap.size m := by
 intro k h
 have h1 := hv k h
 have := (Array.getElem?_eq_some_iff.1 h1)
 obtain ⟨hk, e⟩ := this
 simp only [World.cell?, World.alloc, Array.getElem?_push_size]
 simp [h1]
theorem among_0 (s : ByteArray) (w : World) : Calls Tryz.prog 143 #[.string s, .slice (some ⟨w.heap.size, 0, none⟩) 5 5] (w.alloc (.cells #[.string ⟨#[115]⟩, .string ⟨#[115, 101, 99]⟩, .string ⟨#[115, 101, 99, 115]⟩, .string ⟨#[115, 101, 99, 111, 110, 100]⟩, .string ⟨#[115, 101, 99, 111, 110, 100, 115]⟩] 9)) fun e w' => e = .returned (.bool (inLU s.data.toList [[115], [115, 101, 99], [115, 101, 99, 115], [115, 101, 99, 111, 110, 100], [115, 101, 99, 111, 110, 100, 115]])) ∧ w.alloc (.cells #[.string ⟨#[115]⟩, .string ⟨#[115, 101, 99]⟩, .string ⟨#[115, 101, 99, 115]⟩, .string ⟨#[115, 101, 99, 111, 110, 100]⟩, .string ⟨#[115, 101, 99, 111, 110, 100, 115]⟩] 9) = w' :=
 among_any s [[115], [115, 101, 99], [115, 101, 99, 115], [115, 101, 99, 111, 110, 100], [115, 101, 99, 111, 110, 100, 115]] (by decide) _ _ _ (strs_new w _ _ (fun k h => by
  match k, h with
  | 0, _ => rfl
  | 1, _ => rfl
  | 2, _ => rfl
  | 3, _ => rfl
  | 4, _ => rfl))
theorem among_1 (s : ByteArray) (w : World) : Calls Tryz.prog 143 #[.string s, .slice (some ⟨w.heap.size, 0, none⟩) 4 4] (w.alloc (.cells #[.string ⟨#[109, 105, 110]⟩, .string ⟨#[109, 105, 110, 115]⟩, .string ⟨#[109, 105, 110, 117, 116, 101]⟩, .string ⟨#[109, 105, 110, 117, 116, 101, 115]⟩] 9)) fun e w' => e = .returned (.bool (inLU s.data.toList [[109, 105, 110], [109, 105, 110, 115], [109, 105, 110, 117, 116, 101], [109, 105, 110, 117, 116, 101, 115]])) ∧ w.alloc (.cells #[.string ⟨#[109, 105, 110]⟩, .string ⟨#[109, 105, 110, 115]⟩, .string ⟨#[109, 105, 110, 117, 116, 101]⟩, .string ⟨#[109, 105, 110, 117, 116, 101, 115]⟩] 9) = w' :=
 among_any s [[109, 105, 110], [109, 105, 110, 115], [109, 105, 110, 117, 116, 101], [109, 105, 110, 117, 116, 101, 115]] (by decide) _ _ _ (strs_new w _ _ (fun k h => by
  match k, h with
  | 0, _ => rfl
  | 1, _ => rfl
  | 2, _ => rfl
  | 3, _ => rfl))
theorem among_2 (s : ByteArray) (w : World) : Calls Tryz.prog 143 #[.string s, .slice (some ⟨w.heap.size, 0, none⟩) 3 3] (w.alloc (.cells #[.string ⟨#[104]⟩, .string ⟨#[104, 111, 117, 114]⟩, .string ⟨#[104, 111, 117, 114, 115]⟩] 9)) fun e w' => e = .returned (.bool (inLU s.data.toList [[104], [104, 111, 117, 114], [104, 111, 117, 114, 115]])) ∧ w.alloc (.cells #[.string ⟨#[104]⟩, .string ⟨#[104, 111, 117, 114]⟩, .string ⟨#[104, 111, 117, 114, 115]⟩] 9) = w' :=
 among_any s [[104], [104, 111, 117, 114], [104, 111, 117, 114, 115]] (by decide) _ _ _ (strs_new w _ _ (fun k h => by
  match k, h with
  | 0, _ => rfl
  | 1, _ => rfl
  | 2, _ => rfl))
theorem among_3 (s : ByteArray) (w : World) : Calls Tryz.prog 143 #[.string s, .slice (some ⟨w.heap.size, 0, none⟩) 3 3] (w.alloc (.cells #[.string ⟨#[100]⟩, .string ⟨#[100, 97, 121]⟩, .string ⟨#[100, 97, 121, 115]⟩] 9)) fun e w' => e = .returned (.bool (inLU s.data.toList [[100], [100, 97, 121], [100, 97, 121, 115]])) ∧ w.alloc (.cells #[.string ⟨#[100]⟩, .string ⟨#[100, 97, 121]⟩, .string ⟨#[100, 97, 121, 115]⟩] 9) = w' :=
 among_any s [[100], [100, 97, 121], [100, 97, 121, 115]] (by decide) _ _ _ (strs_new w _ _ (fun k h => by
  match k, h with
  | 0, _ => rfl
  | 1, _ => rfl
  | 2, _ => rfl))
theorem among_4 (s : ByteArray) (w : World) : Calls Tryz.prog 143 #[.string s, .slice (some ⟨w.heap.size, 0, none⟩) 3 3] (w.alloc (.cells #[.string ⟨#[119]⟩, .string ⟨#[119, 101, 101, 107]⟩, .string ⟨#[119, 101, 101, 107, 115]⟩] 9)) fun e w' => e = .returned (.bool (inLU s.data.toList [[119], [119, 101, 101, 107], [119, 101, 101, 107, 115]])) ∧ w.alloc (.cells #[.string ⟨#[119]⟩, .string ⟨#[119, 101, 101, 107]⟩, .string ⟨#[119, 101, 101, 107, 115]⟩] 9) = w' :=
 among_any s [[119], [119, 101, 101, 107], [119, 101, 101, 107, 115]] (by decide) _ _ _ (strs_new w _ _ (fun k h => by
  match k, h with
  | 0, _ => rfl
  | 1, _ => rfl
  | 2, _ => rfl))
theorem among_5 (s : ByteArray) (w : World) : Calls Tryz.prog 143 #[.string s, .slice (some ⟨w.heap.size, 0, none⟩) 3 3] (w.alloc (.cells #[.string ⟨#[109, 111, 110]⟩, .string ⟨#[109, 111, 110, 116, 104]⟩, .string ⟨#[109, 111, 110, 116, 104, 115]⟩] 9)) fun e w' => e = .returned (.bool (inLU s.data.toList [[109, 111, 110], [109, 111, 110, 116, 104], [109, 111, 110, 116, 104, 115]])) ∧ w.alloc (.cells #[.string ⟨#[109, 111, 110]⟩, .string ⟨#[109, 111, 110, 116, 104]⟩, .string ⟨#[109, 111, 110, 116, 104, 115]⟩] 9) = w' :=
 among_any s [[109, 111, 110], [109, 111, 110, 116, 104], [109, 111, 110, 116, 104, 115]] (by decide) _ _ _ (strs_new w _ _ (fun k h => by
  match k, h with
  | 0, _ => rfl
  | 1, _ => rfl
  | 2, _ => rfl))
theorem among_6 (s : ByteArray) (w : World) : Calls Tryz.prog 143 #[.string s, .slice (some ⟨w.heap.size, 0, none⟩) 3 3] (w.alloc (.cells #[.string ⟨#[121]⟩, .string ⟨#[121, 101, 97, 114]⟩, .string ⟨#[121, 101, 97, 114, 115]⟩] 9)) fun e w' => e = .returned (.bool (inLU s.data.toList [[121], [121, 101, 97, 114], [121, 101, 97, 114, 115]])) ∧ w.alloc (.cells #[.string ⟨#[121]⟩, .string ⟨#[121, 101, 97, 114]⟩, .string ⟨#[121, 101, 97, 114, 115]⟩] 9) = w' :=
 among_any s [[121], [121, 101, 97, 114], [121, 101, 97, 114, 115]] (by decide) _ _ _ (strs_new w _ _ (fun k h => by
  match k, h with
  | 0, _ => rfl
  | 1, _ => rfl
  | 2, _ => rfl))
set_option maxRecDepth 100000 in
set_option maxHeartbeats 6400000 in
theorem span_unit_0 (s : ByteArray) (h0 : inLU s.data.toList [[115], [115, 101, 99], [115, 101, 99, 115], [115, 101, 99, 111, 110, 100], [115, 101, 99, 111, 110, 100, 115]] = true) (w : World) : Calls Tryz.prog 124 #[.string s] w fun e w' => e = .returned (.int .i64 1) ∧ Gr w w' := by
 have A0 := among_0 s w
 rw [h0] at A0
 clear h0
 go_enter Tryz.func124, Tryz.ntmps124
 go_wp2_with (go_at_call 143; refine A0.mono ?_; rintro e w' ⟨rfl, rfl⟩)
 go_ret
 exact ⟨rfl, (Gr.alloc (Gr.refl w) _)⟩
set_option maxRecDepth 100000 in
set_option maxHeartbeats 6400000 in
theorem span_unit_1 (s : ByteArray) (h0 : inLU s.data.toList [[115], [115, 101, 99], [115, 101, 99, 115], [115, 101, 99, 111, 110, 100], [115, 101, 99, 111, 110, 100, 115]] = false) (h1 : inLU s.data.toList [[109, 105, 110], [109, 105, 110, 115], [109, 105, 110, 117, 116, 101], [109, 105, 110, 117, 116, 101, 115]] = true) (w : World) : Calls Tryz.prog 124 #[.string s] w fun e w' => e = .returned (.int .i64 60) ∧ Gr w w' := by
 have A0 := among_0 s w
 rw [h0] at A0
 have A1 := among_1 s (w.alloc (.cells #[.string ⟨#[115]⟩, .string ⟨#[115, 101, 99]⟩, .string ⟨#[115, 101, 99, 115]⟩, .string ⟨#[115, 101, 99, 111, 110, 100]⟩, .string ⟨#[115, 101, 99, 111, 110, 100, 115]⟩] 9))
 rw [h1] at A1
 rw [show (w.alloc (.cells #[.string ⟨#[115]⟩, .string ⟨#[115, 101, 99]⟩, .string ⟨#[115, 101, 99, 115]⟩, .string ⟨#[115, 101, 99, 111, 110, 100]⟩, .string ⟨#[115, 101, 99, 111, 110, 100, 115]⟩] 9)).heap.size = w.heap.size + 1 by simp] at A1
 clear h0 h1
 go_enter Tryz.func124, Tryz.ntmps124
 go_upto_region 3 with (go_at_call 143; refine A0.mono ?_; rintro e w' ⟨rfl, rfl⟩)
 go_wp2_with (go_at_call 143; refine A1.mono ?_; rintro e w' ⟨rfl, rfl⟩)
 go_ret
 exact ⟨rfl, (Gr.alloc (Gr.alloc (Gr.refl w) _) _)⟩
set_option maxRecDepth 100000 in
set_option maxHeartbeats 6400000 in
theorem span_unit_2 (s : ByteArray) (h0 : inLU s.data.toList [[115], [115, 101, 99], [115, 101, 99, 115], [115, 101, 99, 111, 110, 100], [115, 101, 99, 111, 110, 100, 115]] = false) (h1 : inLU s.data.toList [[109, 105, 110], [109, 105, 110, 115], [109, 105, 110, 117, 116, 101], [109, 105, 110, 117, 116, 101, 115]] = false) (h2 : inLU s.data.toList [[104], [104, 111, 117, 114], [104, 111, 117, 114, 115]] = true) (w : World) : Calls Tryz.prog 124 #[.string s] w fun e w' => e = .returned (.int .i64 3600) ∧ Gr w w' := by
 have A0 := among_0 s w
 rw [h0] at A0
 have A1 := among_1 s (w.alloc (.cells #[.string ⟨#[115]⟩, .string ⟨#[115, 101, 99]⟩, .string ⟨#[115, 101, 99, 115]⟩, .string ⟨#[115, 101, 99, 111, 110, 100]⟩, .string ⟨#[115, 101, 99, 111, 110, 100, 115]⟩] 9))
 rw [h1] at A1
 rw [show (w.alloc (.cells #[.string ⟨#[115]⟩, .string ⟨#[115, 101, 99]⟩, .string ⟨#[115, 101, 99, 115]⟩, .string ⟨#[115, 101, 99, 111, 110, 100]⟩, .string ⟨#[115, 101, 99, 111, 110, 100, 115]⟩] 9)).heap.size = w.heap.size + 1 by simp] at A1
 have A2 := among_2 s ((w.alloc (.cells #[.string ⟨#[115]⟩, .string ⟨#[115, 101, 99]⟩, .string ⟨#[115, 101, 99, 115]⟩, .string ⟨#[115, 101, 99, 111, 110, 100]⟩, .string ⟨#[115, 101, 99, 111, 110, 100, 115]⟩] 9)).alloc (.cells #[.string ⟨#[109, 105, 110]⟩, .string ⟨#[109, 105, 110, 115]⟩, .string ⟨#[109, 105, 110, 117, 116, 101]⟩, .string ⟨#[109, 105, 110, 117, 116, 101, 115]⟩] 9))
 rw [h2] at A2
 rw [show ((w.alloc (.cells #[.string ⟨#[115]⟩, .string ⟨#[115, 101, 99]⟩, .string ⟨#[115, 101, 99, 115]⟩, .string ⟨#[115, 101, 99, 111, 110, 100]⟩, .string ⟨#[115, 101, 99, 111, 110, 100, 115]⟩] 9)).alloc (.cells #[.string ⟨#[109, 105, 110]⟩, .string ⟨#[109, 105, 110, 115]⟩, .string ⟨#[109, 105, 110, 117, 116, 101]⟩, .string ⟨#[109, 105, 110, 117, 116, 101, 115]⟩] 9)).heap.size = w.heap.size + 1 + 1 by simp] at A2
 clear h0 h1 h2
 go_enter Tryz.func124, Tryz.ntmps124
 go_upto_region 3 with (go_at_call 143; refine A0.mono ?_; rintro e w' ⟨rfl, rfl⟩)
 go_upto_region 5 with (go_at_call 143; refine A1.mono ?_; rintro e w' ⟨rfl, rfl⟩)
 go_wp2_with (go_at_call 143; refine A2.mono ?_; rintro e w' ⟨rfl, rfl⟩)
 go_ret
 exact ⟨rfl, (Gr.alloc (Gr.alloc (Gr.alloc (Gr.refl w) _) _) _)⟩
set_option maxRecDepth 100000 in
set_option maxHeartbeats 6400000 in
theorem span_unit_3 (s : ByteArray) (h0 : inLU s.data.toList [[115], [115, 101, 99], [115, 101, 99, 115], [115, 101, 99, 111, 110, 100], [115, 101, 99, 111, 110, 100, 115]] = false) (h1 : inLU s.data.toList [[109, 105, 110], [109, 105, 110, 115], [109, 105, 110, 117, 116, 101], [109, 105, 110, 117, 116, 101, 115]] = false) (h2 : inLU s.data.toList [[104], [104, 111, 117, 114], [104, 111, 117, 114, 115]] = false) (h3 : inLU s.data.toList [[100], [100, 97, 121], [100, 97, 121, 115]] = true) (w : World) : Calls Tryz.prog 124 #[.string s] w fun e w' => e = .returned (.int .i64 86400) ∧ Gr w w' := by
 have A0 := among_0 s w
 rw [h0] at A0
 have A1 := among_1 s (w.alloc (.cells #[.string ⟨#[115]⟩, .string ⟨#[115, 101, 99]⟩, .string ⟨#[115, 101, 99, 115]⟩, .string ⟨#[115, 101, 99, 111, 110, 100]⟩, .string ⟨#[115, 101, 99, 111, 110, 100, 115]⟩] 9))
 rw [h1] at A1
 rw [show (w.alloc (.cells #[.string ⟨#[115]⟩, .string ⟨#[115, 101, 99]⟩, .string ⟨#[115, 101, 99, 115]⟩, .string ⟨#[115, 101, 99, 111, 110, 100]⟩, .string ⟨#[115, 101, 99, 111, 110, 100, 115]⟩] 9)).heap.size = w.heap.size + 1 by simp] at A1
 have A2 := among_2 s ((w.alloc (.cells #[.string ⟨#[115]⟩, .string ⟨#[115, 101, 99]⟩, .string ⟨#[115, 101, 99, 115]⟩, .string ⟨#[115, 101, 99, 111, 110, 100]⟩, .string ⟨#[115, 101, 99, 111, 110, 100, 115]⟩] 9)).alloc (.cells #[.string ⟨#[109, 105, 110]⟩, .string ⟨#[109, 105, 110, 115]⟩, .string ⟨#[109, 105, 110, 117, 116, 101]⟩, .string ⟨#[109, 105, 110, 117, 116, 101, 115]⟩] 9))
 rw [h2] at A2
 rw [show ((w.alloc (.cells #[.string ⟨#[115]⟩, .string ⟨#[115, 101, 99]⟩, .string ⟨#[115, 101, 99, 115]⟩, .string ⟨#[115, 101, 99, 111, 110, 100]⟩, .string ⟨#[115, 101, 99, 111, 110, 100, 115]⟩] 9)).alloc (.cells #[.string ⟨#[109, 105, 110]⟩, .string ⟨#[109, 105, 110, 115]⟩, .string ⟨#[109, 105, 110, 117, 116, 101]⟩, .string ⟨#[109, 105, 110, 117, 116, 101, 115]⟩] 9)).heap.size = w.heap.size + 1 + 1 by simp] at A2
 have A3 := among_3 s (((w.alloc (.cells #[.string ⟨#[115]⟩, .string ⟨#[115, 101, 99]⟩, .string ⟨#[115, 101, 99, 115]⟩, .string ⟨#[115, 101, 99, 111, 110, 100]⟩, .string ⟨#[115, 101, 99, 111, 110, 100, 115]⟩] 9)).alloc (.cells #[.string ⟨#[109, 105, 110]⟩, .string ⟨#[109, 105, 110, 115]⟩, .string ⟨#[109, 105, 110, 117, 116, 101]⟩, .string ⟨#[109, 105, 110, 117, 116, 101, 115]⟩] 9)).alloc (.cells #[.string ⟨#[104]⟩, .string ⟨#[104, 111, 117, 114]⟩, .string ⟨#[104, 111, 117, 114, 115]⟩] 9))
 rw [h3] at A3
 rw [show (((w.alloc (.cells #[.string ⟨#[115]⟩, .string ⟨#[115, 101, 99]⟩, .string ⟨#[115, 101, 99, 115]⟩, .string ⟨#[115, 101, 99, 111, 110, 100]⟩, .string ⟨#[115, 101, 99, 111, 110, 100, 115]⟩] 9)).alloc (.cells #[.string ⟨#[109, 105, 110]⟩, .string ⟨#[109, 105, 110, 115]⟩, .string ⟨#[109, 105, 110, 117, 116, 101]⟩, .string ⟨#[109, 105, 110, 117, 116, 101, 115]⟩] 9)).alloc (.cells #[.string ⟨#[104]⟩, .string ⟨#[104, 111, 117, 114]⟩, .string ⟨#[104, 111, 117, 114, 115]⟩] 9)).heap.size = w.heap.size + 1 + 1 + 1 by simp] at A3
 clear h0 h1 h2 h3
 go_enter Tryz.func124, Tryz.ntmps124
 go_upto_region 3 with (go_at_call 143; refine A0.mono ?_; rintro e w' ⟨rfl, rfl⟩)
 go_upto_region 5 with (go_at_call 143; refine A1.mono ?_; rintro e w' ⟨rfl, rfl⟩)
 go_upto_region 7 with (go_at_call 143; refine A2.mono ?_; rintro e w' ⟨rfl, rfl⟩)
 go_wp2_with (go_at_call 143; refine A3.mono ?_; rintro e w' ⟨rfl, rfl⟩)
 go_ret
 exact ⟨rfl, (Gr.alloc (Gr.alloc (Gr.alloc (Gr.alloc (Gr.refl w) _) _) _) _)⟩
set_option maxRecDepth 100000 in
set_option maxHeartbeats 6400000 in
theorem span_unit_4 (s : ByteArray) (h0 : inLU s.data.toList [[115], [115, 101, 99], [115, 101, 99, 115], [115, 101, 99, 111, 110, 100], [115, 101, 99, 111, 110, 100, 115]] = false) (h1 : inLU s.data.toList [[109, 105, 110], [109, 105, 110, 115], [109, 105, 110, 117, 116, 101], [109, 105, 110, 117, 116, 101, 115]] = false) (h2 : inLU s.data.toList [[104], [104, 111, 117, 114], [104, 111, 117, 114, 115]] = false) (h3 : inLU s.data.toList [[100], [100, 97, 121], [100, 97, 121, 115]] = false) (h4 : inLU s.data.toList [[119], [119, 101, 101, 107], [119, 101, 101, 107, 115]] = true) (w : World) : Calls Tryz.prog 124 #[.string s] w fun e w' => e = .returned (.int .i64 604800) ∧ Gr w w' := by
 have A0 := among_0 s w
 rw [h0] at A0
 have A1 := among_1 s (w.alloc (.cells #[.string ⟨#[115]⟩, .string ⟨#[115, 101, 99]⟩, .string ⟨#[115, 101, 99, 115]⟩, .string ⟨#[115, 101, 99, 111, 110, 100]⟩, .string ⟨#[115, 101, 99, 111, 110, 100, 115]⟩] 9))
 rw [h1] at A1
 rw [show (w.alloc (.cells #[.string ⟨#[115]⟩, .string ⟨#[115, 101, 99]⟩, .string ⟨#[115, 101, 99, 115]⟩, .string ⟨#[115, 101, 99, 111, 110, 100]⟩, .string ⟨#[115, 101, 99, 111, 110, 100, 115]⟩] 9)).heap.size = w.heap.size + 1 by simp] at A1
 have A2 := among_2 s ((w.alloc (.cells #[.string ⟨#[115]⟩, .string ⟨#[115, 101, 99]⟩, .string ⟨#[115, 101, 99, 115]⟩, .string ⟨#[115, 101, 99, 111, 110, 100]⟩, .string ⟨#[115, 101, 99, 111, 110, 100, 115]⟩] 9)).alloc (.cells #[.string ⟨#[109, 105, 110]⟩, .string ⟨#[109, 105, 110, 115]⟩, .string ⟨#[109, 105, 110, 117, 116, 101]⟩, .string ⟨#[109, 105, 110, 117, 116, 101, 115]⟩] 9))
 rw [h2] at A2
 rw [show ((w.alloc (.cells #[.string ⟨#[115]⟩, .string ⟨#[115, 101, 99]⟩, .string ⟨#[115, 101, 99, 115]⟩, .string ⟨#[115, 101, 99, 111, 110, 100]⟩, .string ⟨#[115, 101, 99, 111, 110, 100, 115]⟩] 9)).alloc (.cells #[.string ⟨#[109, 105, 110]⟩, .string ⟨#[109, 105, 110, 115]⟩, .string ⟨#[109, 105, 110, 117, 116, 101]⟩, .string ⟨#[109, 105, 110, 117, 116, 101, 115]⟩] 9)).heap.size = w.heap.size + 1 + 1 by simp] at A2
 have A3 := among_3 s (((w.alloc (.cells #[.string ⟨#[115]⟩, .string ⟨#[115, 101, 99]⟩, .string ⟨#[115, 101, 99, 115]⟩, .string ⟨#[115, 101, 99, 111, 110, 100]⟩, .string ⟨#[115, 101, 99, 111, 110, 100, 115]⟩] 9)).alloc (.cells #[.string ⟨#[109, 105, 110]⟩, .string ⟨#[109, 105, 110, 115]⟩, .string ⟨#[109, 105, 110, 117, 116, 101]⟩, .string ⟨#[109, 105, 110, 117, 116, 101, 115]⟩] 9)).alloc (.cells #[.string ⟨#[104]⟩, .string ⟨#[104, 111, 117, 114]⟩, .string ⟨#[104, 111, 117, 114, 115]⟩] 9))
 rw [h3] at A3
 rw [show (((w.alloc (.cells #[.string ⟨#[115]⟩, .string ⟨#[115, 101, 99]⟩, .string ⟨#[115, 101, 99, 115]⟩, .string ⟨#[115, 101, 99, 111, 110, 100]⟩, .string ⟨#[115, 101, 99, 111, 110, 100, 115]⟩] 9)).alloc (.cells #[.string ⟨#[109, 105, 110]⟩, .string ⟨#[109, 105, 110, 115]⟩, .string ⟨#[109, 105, 110, 117, 116, 101]⟩, .string ⟨#[109, 105, 110, 117, 116, 101, 115]⟩] 9)).alloc (.cells #[.string ⟨#[104]⟩, .string ⟨#[104, 111, 117, 114]⟩, .string ⟨#[104, 111, 117, 114, 115]⟩] 9)).heap.size = w.heap.size + 1 + 1 + 1 by simp] at A3
 have A4 := among_4 s ((((w.alloc (.cells #[.string ⟨#[115]⟩, .string ⟨#[115, 101, 99]⟩, .string ⟨#[115, 101, 99, 115]⟩, .string ⟨#[115, 101, 99, 111, 110, 100]⟩, .string ⟨#[115, 101, 99, 111, 110, 100, 115]⟩] 9)).alloc (.cells #[.string ⟨#[109, 105, 110]⟩, .string ⟨#[109, 105, 110, 115]⟩, .string ⟨#[109, 105, 110, 117, 116, 101]⟩, .string ⟨#[109, 105, 110, 117, 116, 101, 115]⟩] 9)).alloc (.cells #[.string ⟨#[104]⟩, .string ⟨#[104, 111, 117, 114]⟩, .string ⟨#[104, 111, 117, 114, 115]⟩] 9)).alloc (.cells #[.string ⟨#[100]⟩, .string ⟨#[100, 97, 121]⟩, .string ⟨#[100, 97, 121, 115]⟩] 9))
 rw [h4] at A4
 rw [show ((((w.alloc (.cells #[.string ⟨#[115]⟩, .string ⟨#[115, 101, 99]⟩, .string ⟨#[115, 101, 99, 115]⟩, .string ⟨#[115, 101, 99, 111, 110, 100]⟩, .string ⟨#[115, 101, 99, 111, 110, 100, 115]⟩] 9)).alloc (.cells #[.string ⟨#[109, 105, 110]⟩, .string ⟨#[109, 105, 110, 115]⟩, .string ⟨#[109, 105, 110, 117, 116, 101]⟩, .string ⟨#[109, 105, 110, 117, 116, 101, 115]⟩] 9)).alloc (.cells #[.string ⟨#[104]⟩, .string ⟨#[104, 111, 117, 114]⟩, .string ⟨#[104, 111, 117, 114, 115]⟩] 9)).alloc (.cells #[.string ⟨#[100]⟩, .string ⟨#[100, 97, 121]⟩, .string ⟨#[100, 97, 121, 115]⟩] 9)).heap.size = w.heap.size + 1 + 1 + 1 + 1 by simp] at A4
 clear h0 h1 h2 h3 h4
 go_enter Tryz.func124, Tryz.ntmps124
 go_upto_region 3 with (go_at_call 143; refine A0.mono ?_; rintro e w' ⟨rfl, rfl⟩)
 go_upto_region 5 with (go_at_call 143; refine A1.mono ?_; rintro e w' ⟨rfl, rfl⟩)
 go_upto_region 7 with (go_at_call 143; refine A2.mono ?_; rintro e w' ⟨rfl, rfl⟩)
 go_upto_region 9 with (go_at_call 143; refine A3.mono ?_; rintro e w' ⟨rfl, rfl⟩)
 go_wp2_with (go_at_call 143; refine A4.mono ?_; rintro e w' ⟨rfl, rfl⟩)
 go_ret
 exact ⟨rfl, (Gr.alloc (Gr.alloc (Gr.alloc (Gr.alloc (Gr.alloc (Gr.refl w) _) _) _) _) _)⟩
set_option maxRecDepth 100000 in
set_option maxHeartbeats 6400000 in
theorem span_unit_5 (s : ByteArray) (h0 : inLU s.data.toList [[115], [115, 101, 99], [115, 101, 99, 115], [115, 101, 99, 111, 110, 100], [115, 101, 99, 111, 110, 100, 115]] = false) (h1 : inLU s.data.toList [[109, 105, 110], [109, 105, 110, 115], [109, 105, 110, 117, 116, 101], [109, 105, 110, 117, 116, 101, 115]] = false) (h2 : inLU s.data.toList [[104], [104, 111, 117, 114], [104, 111, 117, 114, 115]] = false) (h3 : inLU s.data.toList [[100], [100, 97, 121], [100, 97, 121, 115]] = false) (h4 : inLU s.data.toList [[119], [119, 101, 101, 107], [119, 101, 101, 107, 115]] = false) (h5 : inLU s.data.toList [[109, 111, 110], [109, 111, 110, 116, 104], [109, 111, 110, 116, 104, 115]] = true) (w : World) : Calls Tryz.prog 124 #[.string s] w fun e w' => e = .returned (.int .i64 2592000) ∧ Gr w w' := by
 have A0 := among_0 s w
 rw [h0] at A0
 have A1 := among_1 s (w.alloc (.cells #[.string ⟨#[115]⟩, .string ⟨#[115, 101, 99]⟩, .string ⟨#[115, 101, 99, 115]⟩, .string ⟨#[115, 101, 99, 111, 110, 100]⟩, .string ⟨#[115, 101, 99, 111, 110, 100, 115]⟩] 9))
 rw [h1] at A1
 rw [show (w.alloc (.cells #[.string ⟨#[115]⟩, .string ⟨#[115, 101, 99]⟩, .string ⟨#[115, 101, 99, 115]⟩, .string ⟨#[115, 101, 99, 111, 110, 100]⟩, .string ⟨#[115, 101, 99, 111, 110, 100, 115]⟩] 9)).heap.size = w.heap.size + 1 by simp] at A1
 have A2 := among_2 s ((w.alloc (.cells #[.string ⟨#[115]⟩, .string ⟨#[115, 101, 99]⟩, .string ⟨#[115, 101, 99, 115]⟩, .string ⟨#[115, 101, 99, 111, 110, 100]⟩, .string ⟨#[115, 101, 99, 111, 110, 100, 115]⟩] 9)).alloc (.cells #[.string ⟨#[109, 105, 110]⟩, .string ⟨#[109, 105, 110, 115]⟩, .string ⟨#[109, 105, 110, 117, 116, 101]⟩, .string ⟨#[109, 105, 110, 117, 116, 101, 115]⟩] 9))
 rw [h2] at A2
 rw [show ((w.alloc (.cells #[.string ⟨#[115]⟩, .string ⟨#[115, 101, 99]⟩, .string ⟨#[115, 101, 99, 115]⟩, .string ⟨#[115, 101, 99, 111, 110, 100]⟩, .string ⟨#[115, 101, 99, 111, 110, 100, 115]⟩] 9)).alloc (.cells #[.string ⟨#[109, 105, 110]⟩, .string ⟨#[109, 105, 110, 115]⟩, .string ⟨#[109, 105, 110, 117, 116, 101]⟩, .string ⟨#[109, 105, 110, 117, 116, 101, 115]⟩] 9)).heap.size = w.heap.size + 1 + 1 by simp] at A2
 have A3 := among_3 s (((w.alloc (.cells #[.string ⟨#[115]⟩, .string ⟨#[115, 101, 99]⟩, .string ⟨#[115, 101, 99, 115]⟩, .string ⟨#[115, 101, 99, 111, 110, 100]⟩, .string ⟨#[115, 101, 99, 111, 110, 100, 115]⟩] 9)).alloc (.cells #[.string ⟨#[109, 105, 110]⟩, .string ⟨#[109, 105, 110, 115]⟩, .string ⟨#[109, 105, 110, 117, 116, 101]⟩, .string ⟨#[109, 105, 110, 117, 116, 101, 115]⟩] 9)).alloc (.cells #[.string ⟨#[104]⟩, .string ⟨#[104, 111, 117, 114]⟩, .string ⟨#[104, 111, 117, 114, 115]⟩] 9))
 rw [h3] at A3
 rw [show (((w.alloc (.cells #[.string ⟨#[115]⟩, .string ⟨#[115, 101, 99]⟩, .string ⟨#[115, 101, 99, 115]⟩, .string ⟨#[115, 101, 99, 111, 110, 100]⟩, .string ⟨#[115, 101, 99, 111, 110, 100, 115]⟩] 9)).alloc (.cells #[.string ⟨#[109, 105, 110]⟩, .string ⟨#[109, 105, 110, 115]⟩, .string ⟨#[109, 105, 110, 117, 116, 101]⟩, .string ⟨#[109, 105, 110, 117, 116, 101, 115]⟩] 9)).alloc (.cells #[.string ⟨#[104]⟩, .string ⟨#[104, 111, 117, 114]⟩, .string ⟨#[104, 111, 117, 114, 115]⟩] 9)).heap.size = w.heap.size + 1 + 1 + 1 by simp] at A3
 have A4 := among_4 s ((((w.alloc (.cells #[.string ⟨#[115]⟩, .string ⟨#[115, 101, 99]⟩, .string ⟨#[115, 101, 99, 115]⟩, .string ⟨#[115, 101, 99, 111, 110, 100]⟩, .string ⟨#[115, 101, 99, 111, 110, 100, 115]⟩] 9)).alloc (.cells #[.string ⟨#[109, 105, 110]⟩, .string ⟨#[109, 105, 110, 115]⟩, .string ⟨#[109, 105, 110, 117, 116, 101]⟩, .string ⟨#[109, 105, 110, 117, 116, 101, 115]⟩] 9)).alloc (.cells #[.string ⟨#[104]⟩, .string ⟨#[104, 111, 117, 114]⟩, .string ⟨#[104, 111, 117, 114, 115]⟩] 9)).alloc (.cells #[.string ⟨#[100]⟩, .string ⟨#[100, 97, 121]⟩, .string ⟨#[100, 97, 121, 115]⟩] 9))
 rw [h4] at A4
 rw [show ((((w.alloc (.cells #[.string ⟨#[115]⟩, .string ⟨#[115, 101, 99]⟩, .string ⟨#[115, 101, 99, 115]⟩, .string ⟨#[115, 101, 99, 111, 110, 100]⟩, .string ⟨#[115, 101, 99, 111, 110, 100, 115]⟩] 9)).alloc (.cells #[.string ⟨#[109, 105, 110]⟩, .string ⟨#[109, 105, 110, 115]⟩, .string ⟨#[109, 105, 110, 117, 116, 101]⟩, .string ⟨#[109, 105, 110, 117, 116, 101, 115]⟩] 9)).alloc (.cells #[.string ⟨#[104]⟩, .string ⟨#[104, 111, 117, 114]⟩, .string ⟨#[104, 111, 117, 114, 115]⟩] 9)).alloc (.cells #[.string ⟨#[100]⟩, .string ⟨#[100, 97, 121]⟩, .string ⟨#[100, 97, 121, 115]⟩] 9)).heap.size = w.heap.size + 1 + 1 + 1 + 1 by simp] at A4
 have A5 := among_5 s (((((w.alloc (.cells #[.string ⟨#[115]⟩, .string ⟨#[115, 101, 99]⟩, .string ⟨#[115, 101, 99, 115]⟩, .string ⟨#[115, 101, 99, 111, 110, 100]⟩, .string ⟨#[115, 101, 99, 111, 110, 100, 115]⟩] 9)).alloc (.cells #[.string ⟨#[109, 105, 110]⟩, .string ⟨#[109, 105, 110, 115]⟩, .string ⟨#[109, 105, 110, 117, 116, 101]⟩, .string ⟨#[109, 105, 110, 117, 116, 101, 115]⟩] 9)).alloc (.cells #[.string ⟨#[104]⟩, .string ⟨#[104, 111, 117, 114]⟩, .string ⟨#[104, 111, 117, 114, 115]⟩] 9)).alloc (.cells #[.string ⟨#[100]⟩, .string ⟨#[100, 97, 121]⟩, .string ⟨#[100, 97, 121, 115]⟩] 9)).alloc (.cells #[.string ⟨#[119]⟩, .string ⟨#[119, 101, 101, 107]⟩, .string ⟨#[119, 101, 101, 107, 115]⟩] 9))
 rw [h5] at A5
 rw [show (((((w.alloc (.cells #[.string ⟨#[115]⟩, .string ⟨#[115, 101, 99]⟩, .string ⟨#[115, 101, 99, 115]⟩, .string ⟨#[115, 101, 99, 111, 110, 100]⟩, .string ⟨#[115, 101, 99, 111, 110, 100, 115]⟩] 9)).alloc (.cells #[.string ⟨#[109, 105, 110]⟩, .string ⟨#[109, 105, 110, 115]⟩, .string ⟨#[109, 105, 110, 117, 116, 101]⟩, .string ⟨#[109, 105, 110, 117, 116, 101, 115]⟩] 9)).alloc (.cells #[.string ⟨#[104]⟩, .string ⟨#[104, 111, 117, 114]⟩, .string ⟨#[104, 111, 117, 114, 115]⟩] 9)).alloc (.cells #[.string ⟨#[100]⟩, .string ⟨#[100, 97, 121]⟩, .string ⟨#[100, 97, 121, 115]⟩] 9)).alloc (.cells #[.string ⟨#[119]⟩, .string ⟨#[119, 101, 101, 107]⟩, .string ⟨#[119, 101, 101, 107, 115]⟩] 9)).heap.size = w.heap.size + 1 + 1 + 1 + 1 + 1 by simp] at A5
 clear h0 h1 h2 h3 h4 h5
 go_enter Tryz.func124, Tryz.ntmps124
 go_upto_region 3 with (go_at_call 143; refine A0.mono ?_; rintro e w' ⟨rfl, rfl⟩)
 go_upto_region 5 with (go_at_call 143; refine A1.mono ?_; rintro e w' ⟨rfl, rfl⟩)
 go_upto_region 7 with (go_at_call 143; refine A2.mono ?_; rintro e w' ⟨rfl, rfl⟩)
 go_upto_region 9 with (go_at_call 143; refine A3.mono ?_; rintro e w' ⟨rfl, rfl⟩)
 go_upto_region 11 with (go_at_call 143; refine A4.mono ?_; rintro e w' ⟨rfl, rfl⟩)
 go_wp2_with (go_at_call 143; refine A5.mono ?_; rintro e w' ⟨rfl, rfl⟩)
 go_ret
 exact ⟨rfl, (Gr.alloc (Gr.alloc (Gr.alloc (Gr.alloc (Gr.alloc (Gr.alloc (Gr.refl w) _) _) _) _) _) _)⟩
set_option maxRecDepth 100000 in
set_option maxHeartbeats 6400000 in
theorem span_unit_6 (s : ByteArray) (h0 : inLU s.data.toList [[115], [115, 101, 99], [115, 101, 99, 115], [115, 101, 99, 111, 110, 100], [115, 101, 99, 111, 110, 100, 115]] = false) (h1 : inLU s.data.toList [[109, 105, 110], [109, 105, 110, 115], [109, 105, 110, 117, 116, 101], [109, 105, 110, 117, 116, 101, 115]] = false) (h2 : inLU s.data.toList [[104], [104, 111, 117, 114], [104, 111, 117, 114, 115]] = false) (h3 : inLU s.data.toList [[100], [100, 97, 121], [100, 97, 121, 115]] = false) (h4 : inLU s.data.toList [[119], [119, 101, 101, 107], [119, 101, 101, 107, 115]] = false) (h5 : inLU s.data.toList [[109, 111, 110], [109, 111, 110, 116, 104], [109, 111, 110, 116, 104, 115]] = false) (h6 : inLU s.data.toList [[121], [121, 101, 97, 114], [121, 101, 97, 114, 115]] = true) (w : World) : Calls Tryz.prog 124 #[.string s] w fun e w' => e = .returned (.int .i64 31536000) ∧ Gr w w' := by
 have A0 := among_0 s w
 rw [h0] at A0
 have A1 := among_1 s (w.alloc (.cells #[.string ⟨#[115]⟩, .string ⟨#[115, 101, 99]⟩, .string ⟨#[115, 101, 99, 115]⟩, .string ⟨#[115, 101, 99, 111, 110, 100]⟩, .string ⟨#[115, 101, 99, 111, 110, 100, 115]⟩] 9))
 rw [h1] at A1
 rw [show (w.alloc (.cells #[.string ⟨#[115]⟩, .string ⟨#[115, 101, 99]⟩, .string ⟨#[115, 101, 99, 115]⟩, .string ⟨#[115, 101, 99, 111, 110, 100]⟩, .string ⟨#[115, 101, 99, 111, 110, 100, 115]⟩] 9)).heap.size = w.heap.size + 1 by simp] at A1
 have A2 := among_2 s ((w.alloc (.cells #[.string ⟨#[115]⟩, .string ⟨#[115, 101, 99]⟩, .string ⟨#[115, 101, 99, 115]⟩, .string ⟨#[115, 101, 99, 111, 110, 100]⟩, .string ⟨#[115, 101, 99, 111, 110, 100, 115]⟩] 9)).alloc (.cells #[.string ⟨#[109, 105, 110]⟩, .string ⟨#[109, 105, 110, 115]⟩, .string ⟨#[109, 105, 110, 117, 116, 101]⟩, .string ⟨#[109, 105, 110, 117, 116, 101, 115]⟩] 9))
 rw [h2] at A2
 rw [show ((w.alloc (.cells #[.string ⟨#[115]⟩, .string ⟨#[115, 101, 99]⟩, .string ⟨#[115, 101, 99, 115]⟩, .string ⟨#[115, 101, 99, 111, 110, 100]⟩, .string ⟨#[115, 101, 99, 111, 110, 100, 115]⟩] 9)).alloc (.cells #[.string ⟨#[109, 105, 110]⟩, .string ⟨#[109, 105, 110, 115]⟩, .string ⟨#[109, 105, 110, 117, 116, 101]⟩, .string ⟨#[109, 105, 110, 117, 116, 101, 115]⟩] 9)).heap.size = w.heap.size + 1 + 1 by simp] at A2
 have A3 := among_3 s (((w.alloc (.cells #[.string ⟨#[115]⟩, .string ⟨#[115, 101, 99]⟩, .string ⟨#[115, 101, 99, 115]⟩, .string ⟨#[115, 101, 99, 111, 110, 100]⟩, .string ⟨#[115, 101, 99, 111, 110, 100, 115]⟩] 9)).alloc (.cells #[.string ⟨#[109, 105, 110]⟩, .string ⟨#[109, 105, 110, 115]⟩, .string ⟨#[109, 105, 110, 117, 116, 101]⟩, .string ⟨#[109, 105, 110, 117, 116, 101, 115]⟩] 9)).alloc (.cells #[.string ⟨#[104]⟩, .string ⟨#[104, 111, 117, 114]⟩, .string ⟨#[104, 111, 117, 114, 115]⟩] 9))
 rw [h3] at A3
 rw [show (((w.alloc (.cells #[.string ⟨#[115]⟩, .string ⟨#[115, 101, 99]⟩, .string ⟨#[115, 101, 99, 115]⟩, .string ⟨#[115, 101, 99, 111, 110, 100]⟩, .string ⟨#[115, 101, 99, 111, 110, 100, 115]⟩] 9)).alloc (.cells #[.string ⟨#[109, 105, 110]⟩, .string ⟨#[109, 105, 110, 115]⟩, .string ⟨#[109, 105, 110, 117, 116, 101]⟩, .string ⟨#[109, 105, 110, 117, 116, 101, 115]⟩] 9)).alloc (.cells #[.string ⟨#[104]⟩, .string ⟨#[104, 111, 117, 114]⟩, .string ⟨#[104, 111, 117, 114, 115]⟩] 9)).heap.size = w.heap.size + 1 + 1 + 1 by simp] at A3
 have A4 := among_4 s ((((w.alloc (.cells #[.string ⟨#[115]⟩, .string ⟨#[115, 101, 99]⟩, .string ⟨#[115, 101, 99, 115]⟩, .string ⟨#[115, 101, 99, 111, 110, 100]⟩, .string ⟨#[115, 101, 99, 111, 110, 100, 115]⟩] 9)).alloc (.cells #[.string ⟨#[109, 105, 110]⟩, .string ⟨#[109, 105, 110, 115]⟩, .string ⟨#[109, 105, 110, 117, 116, 101]⟩, .string ⟨#[109, 105, 110, 117, 116, 101, 115]⟩] 9)).alloc (.cells #[.string ⟨#[104]⟩, .string ⟨#[104, 111, 117, 114]⟩, .string ⟨#[104, 111, 117, 114, 115]⟩] 9)).alloc (.cells #[.string ⟨#[100]⟩, .string ⟨#[100, 97, 121]⟩, .string ⟨#[100, 97, 121, 115]⟩] 9))
 rw [h4] at A4
 rw [show ((((w.alloc (.cells #[.string ⟨#[115]⟩, .string ⟨#[115, 101, 99]⟩, .string ⟨#[115, 101, 99, 115]⟩, .string ⟨#[115, 101, 99, 111, 110, 100]⟩, .string ⟨#[115, 101, 99, 111, 110, 100, 115]⟩] 9)).alloc (.cells #[.string ⟨#[109, 105, 110]⟩, .string ⟨#[109, 105, 110, 115]⟩, .string ⟨#[109, 105, 110, 117, 116, 101]⟩, .string ⟨#[109, 105, 110, 117, 116, 101, 115]⟩] 9)).alloc (.cells #[.string ⟨#[104]⟩, .string ⟨#[104, 111, 117, 114]⟩, .string ⟨#[104, 111, 117, 114, 115]⟩] 9)).alloc (.cells #[.string ⟨#[100]⟩, .string ⟨#[100, 97, 121]⟩, .string ⟨#[100, 97, 121, 115]⟩] 9)).heap.size = w.heap.size + 1 + 1 + 1 + 1 by simp] at A4
 have A5 := among_5 s (((((w.alloc (.cells #[.string ⟨#[115]⟩, .string ⟨#[115, 101, 99]⟩, .string ⟨#[115, 101, 99, 115]⟩, .string ⟨#[115, 101, 99, 111, 110, 100]⟩, .string ⟨#[115, 101, 99, 111, 110, 100, 115]⟩] 9)).alloc (.cells #[.string ⟨#[109, 105, 110]⟩, .string ⟨#[109, 105, 110, 115]⟩, .string ⟨#[109, 105, 110, 117, 116, 101]⟩, .string ⟨#[109, 105, 110, 117, 116, 101, 115]⟩] 9)).alloc (.cells #[.string ⟨#[104]⟩, .string ⟨#[104, 111, 117, 114]⟩, .string ⟨#[104, 111, 117, 114, 115]⟩] 9)).alloc (.cells #[.string ⟨#[100]⟩, .string ⟨#[100, 97, 121]⟩, .string ⟨#[100, 97, 121, 115]⟩] 9)).alloc (.cells #[.string ⟨#[119]⟩, .string ⟨#[119, 101, 101, 107]⟩, .string ⟨#[119, 101, 101, 107, 115]⟩] 9))
 rw [h5] at A5
 rw [show (((((w.alloc (.cells #[.string ⟨#[115]⟩, .string ⟨#[115, 101, 99]⟩, .string ⟨#[115, 101, 99, 115]⟩, .string ⟨#[115, 101, 99, 111, 110, 100]⟩, .string ⟨#[115, 101, 99, 111, 110, 100, 115]⟩] 9)).alloc (.cells #[.string ⟨#[109, 105, 110]⟩, .string ⟨#[109, 105, 110, 115]⟩, .string ⟨#[109, 105, 110, 117, 116, 101]⟩, .string ⟨#[109, 105, 110, 117, 116, 101, 115]⟩] 9)).alloc (.cells #[.string ⟨#[104]⟩, .string ⟨#[104, 111, 117, 114]⟩, .string ⟨#[104, 111, 117, 114, 115]⟩] 9)).alloc (.cells #[.string ⟨#[100]⟩, .string ⟨#[100, 97, 121]⟩, .string ⟨#[100, 97, 121, 115]⟩] 9)).alloc (.cells #[.string ⟨#[119]⟩, .string ⟨#[119, 101, 101, 107]⟩, .string ⟨#[119, 101, 101, 107, 115]⟩] 9)).heap.size = w.heap.size + 1 + 1 + 1 + 1 + 1 by simp] at A5
 have A6 := among_6 s ((((((w.alloc (.cells #[.string ⟨#[115]⟩, .string ⟨#[115, 101, 99]⟩, .string ⟨#[115, 101, 99, 115]⟩, .string ⟨#[115, 101, 99, 111, 110, 100]⟩, .string ⟨#[115, 101, 99, 111, 110, 100, 115]⟩] 9)).alloc (.cells #[.string ⟨#[109, 105, 110]⟩, .string ⟨#[109, 105, 110, 115]⟩, .string ⟨#[109, 105, 110, 117, 116, 101]⟩, .string ⟨#[109, 105, 110, 117, 116, 101, 115]⟩] 9)).alloc (.cells #[.string ⟨#[104]⟩, .string ⟨#[104, 111, 117, 114]⟩, .string ⟨#[104, 111, 117, 114, 115]⟩] 9)).alloc (.cells #[.string ⟨#[100]⟩, .string ⟨#[100, 97, 121]⟩, .string ⟨#[100, 97, 121, 115]⟩] 9)).alloc (.cells #[.string ⟨#[119]⟩, .string ⟨#[119, 101, 101, 107]⟩, .string ⟨#[119, 101, 101, 107, 115]⟩] 9)).alloc (.cells #[.string ⟨#[109, 111, 110]⟩, .string ⟨#[109, 111, 110, 116, 104]⟩, .string ⟨#[109, 111, 110, 116, 104, 115]⟩] 9))
 rw [h6] at A6
 rw [show ((((((w.alloc (.cells #[.string ⟨#[115]⟩, .string ⟨#[115, 101, 99]⟩, .string ⟨#[115, 101, 99, 115]⟩, .string ⟨#[115, 101, 99, 111, 110, 100]⟩, .string ⟨#[115, 101, 99, 111, 110, 100, 115]⟩] 9)).alloc (.cells #[.string ⟨#[109, 105, 110]⟩, .string ⟨#[109, 105, 110, 115]⟩, .string ⟨#[109, 105, 110, 117, 116, 101]⟩, .string ⟨#[109, 105, 110, 117, 116, 101, 115]⟩] 9)).alloc (.cells #[.string ⟨#[104]⟩, .string ⟨#[104, 111, 117, 114]⟩, .string ⟨#[104, 111, 117, 114, 115]⟩] 9)).alloc (.cells #[.string ⟨#[100]⟩, .string ⟨#[100, 97, 121]⟩, .string ⟨#[100, 97, 121, 115]⟩] 9)).alloc (.cells #[.string ⟨#[119]⟩, .string ⟨#[119, 101, 101, 107]⟩, .string ⟨#[119, 101, 101, 107, 115]⟩] 9)).alloc (.cells #[.string ⟨#[109, 111, 110]⟩, .string ⟨#[109, 111, 110, 116, 104]⟩, .string ⟨#[109, 111, 110, 116, 104, 115]⟩] 9)).heap.size = w.heap.size + 1 + 1 + 1 + 1 + 1 + 1 by simp] at A6
 clear h0 h1 h2 h3 h4 h5 h6
 go_enter Tryz.func124, Tryz.ntmps124
 go_upto_region 3 with (go_at_call 143; refine A0.mono ?_; rintro e w' ⟨rfl, rfl⟩)
 go_upto_region 5 with (go_at_call 143; refine A1.mono ?_; rintro e w' ⟨rfl, rfl⟩)
 go_upto_region 7 with (go_at_call 143; refine A2.mono ?_; rintro e w' ⟨rfl, rfl⟩)
 go_upto_region 9 with (go_at_call 143; refine A3.mono ?_; rintro e w' ⟨rfl, rfl⟩)
 go_upto_region 11 with (go_at_call 143; refine A4.mono ?_; rintro e w' ⟨rfl, rfl⟩)
 go_upto_region 13 with (go_at_call 143; refine A5.mono ?_; rintro e w' ⟨rfl, rfl⟩)
 go_wp2_with (go_at_call 143; refine A6.mono ?_; rintro e w' ⟨rfl, rfl⟩)
 go_ret
 exact ⟨rfl, (Gr.alloc (Gr.alloc (Gr.alloc (Gr.alloc (Gr.alloc (Gr.alloc (Gr.alloc (Gr.refl w) _) _) _) _) _) _) _)⟩
set_option maxRecDepth 100000 in
set_option maxHeartbeats 6400000 in
theorem span_unit_no (s : ByteArray) (h0 : inLU s.data.toList [[115], [115, 101, 99], [115, 101, 99, 115], [115, 101, 99, 111, 110, 100], [115, 101, 99, 111, 110, 100, 115]] = false) (h1 : inLU s.data.toList [[109, 105, 110], [109, 105, 110, 115], [109, 105, 110, 117, 116, 101], [109, 105, 110, 117, 116, 101, 115]] = false) (h2 : inLU s.data.toList [[104], [104, 111, 117, 114], [104, 111, 117, 114, 115]] = false) (h3 : inLU s.data.toList [[100], [100, 97, 121], [100, 97, 121, 115]] = false) (h4 : inLU s.data.toList [[119], [119, 101, 101, 107], [119, 101, 101, 107, 115]] = false) (h5 : inLU s.data.toList [[109, 111, 110], [109, 111, 110, 116, 104], [109, 111, 110, 116, 104, 115]] = false) (h6 : inLU s.data.toList [[121], [121, 101, 97, 114], [121, 101, 97, 114, 115]] = false) (w : World) : Calls Tryz.prog 124 #[.string s] w fun e w' => e = .returned (.int .i64 0) ∧ Gr w w' := by
 have A0 := among_0 s w
 rw [h0] at A0
 have A1 := among_1 s (w.alloc (.cells #[.string ⟨#[115]⟩, .string ⟨#[115, 101, 99]⟩, .string ⟨#[115, 101, 99, 115]⟩, .string ⟨#[115, 101, 99, 111, 110, 100]⟩, .string ⟨#[115, 101, 99, 111, 110, 100, 115]⟩] 9))
 rw [h1] at A1
 rw [show (w.alloc (.cells #[.string ⟨#[115]⟩, .string ⟨#[115, 101, 99]⟩, .string ⟨#[115, 101, 99, 115]⟩, .string ⟨#[115, 101, 99, 111, 110, 100]⟩, .string ⟨#[115, 101, 99, 111, 110, 100, 115]⟩] 9)).heap.size = w.heap.size + 1 by simp] at A1
 have A2 := among_2 s ((w.alloc (.cells #[.string ⟨#[115]⟩, .string ⟨#[115, 101, 99]⟩, .string ⟨#[115, 101, 99, 115]⟩, .string ⟨#[115, 101, 99, 111, 110, 100]⟩, .string ⟨#[115, 101, 99, 111, 110, 100, 115]⟩] 9)).alloc (.cells #[.string ⟨#[109, 105, 110]⟩, .string ⟨#[109, 105, 110, 115]⟩, .string ⟨#[109, 105, 110, 117, 116, 101]⟩, .string ⟨#[109, 105, 110, 117, 116, 101, 115]⟩] 9))
 rw [h2] at A2
 rw [show ((w.alloc (.cells #[.string ⟨#[115]⟩, .string ⟨#[115, 101, 99]⟩, .string ⟨#[115, 101, 99, 115]⟩, .string ⟨#[115, 101, 99, 111, 110, 100]⟩, .string ⟨#[115, 101, 99, 111, 110, 100, 115]⟩] 9)).alloc (.cells #[.string ⟨#[109, 105, 110]⟩, .string ⟨#[109, 105, 110, 115]⟩, .string ⟨#[109, 105, 110, 117, 116, 101]⟩, .string ⟨#[109, 105, 110, 117, 116, 101, 115]⟩] 9)).heap.size = w.heap.size + 1 + 1 by simp] at A2
 have A3 := among_3 s (((w.alloc (.cells #[.string ⟨#[115]⟩, .string ⟨#[115, 101, 99]⟩, .string ⟨#[115, 101, 99, 115]⟩, .string ⟨#[115, 101, 99, 111, 110, 100]⟩, .string ⟨#[115, 101, 99, 111, 110, 100, 115]⟩] 9)).alloc (.cells #[.string ⟨#[109, 105, 110]⟩, .string ⟨#[109, 105, 110, 115]⟩, .string ⟨#[109, 105, 110, 117, 116, 101]⟩, .string ⟨#[109, 105, 110, 117, 116, 101, 115]⟩] 9)).alloc (.cells #[.string ⟨#[104]⟩, .string ⟨#[104, 111, 117, 114]⟩, .string ⟨#[104, 111, 117, 114, 115]⟩] 9))
 rw [h3] at A3
 rw [show (((w.alloc (.cells #[.string ⟨#[115]⟩, .string ⟨#[115, 101, 99]⟩, .string ⟨#[115, 101, 99, 115]⟩, .string ⟨#[115, 101, 99, 111, 110, 100]⟩, .string ⟨#[115, 101, 99, 111, 110, 100, 115]⟩] 9)).alloc (.cells #[.string ⟨#[109, 105, 110]⟩, .string ⟨#[109, 105, 110, 115]⟩, .string ⟨#[109, 105, 110, 117, 116, 101]⟩, .string ⟨#[109, 105, 110, 117, 116, 101, 115]⟩] 9)).alloc (.cells #[.string ⟨#[104]⟩, .string ⟨#[104, 111, 117, 114]⟩, .string ⟨#[104, 111, 117, 114, 115]⟩] 9)).heap.size = w.heap.size + 1 + 1 + 1 by simp] at A3
 have A4 := among_4 s ((((w.alloc (.cells #[.string ⟨#[115]⟩, .string ⟨#[115, 101, 99]⟩, .string ⟨#[115, 101, 99, 115]⟩, .string ⟨#[115, 101, 99, 111, 110, 100]⟩, .string ⟨#[115, 101, 99, 111, 110, 100, 115]⟩] 9)).alloc (.cells #[.string ⟨#[109, 105, 110]⟩, .string ⟨#[109, 105, 110, 115]⟩, .string ⟨#[109, 105, 110, 117, 116, 101]⟩, .string ⟨#[109, 105, 110, 117, 116, 101, 115]⟩] 9)).alloc (.cells #[.string ⟨#[104]⟩, .string ⟨#[104, 111, 117, 114]⟩, .string ⟨#[104, 111, 117, 114, 115]⟩] 9)).alloc (.cells #[.string ⟨#[100]⟩, .string ⟨#[100, 97, 121]⟩, .string ⟨#[100, 97, 121, 115]⟩] 9))
 rw [h4] at A4
 rw [show ((((w.alloc (.cells #[.string ⟨#[115]⟩, .string ⟨#[115, 101, 99]⟩, .string ⟨#[115, 101, 99, 115]⟩, .string ⟨#[115, 101, 99, 111, 110, 100]⟩, .string ⟨#[115, 101, 99, 111, 110, 100, 115]⟩] 9)).alloc (.cells #[.string ⟨#[109, 105, 110]⟩, .string ⟨#[109, 105, 110, 115]⟩, .string ⟨#[109, 105, 110, 117, 116, 101]⟩, .string ⟨#[109, 105, 110, 117, 116, 101, 115]⟩] 9)).alloc (.cells #[.string ⟨#[104]⟩, .string ⟨#[104, 111, 117, 114]⟩, .string ⟨#[104, 111, 117, 114, 115]⟩] 9)).alloc (.cells #[.string ⟨#[100]⟩, .string ⟨#[100, 97, 121]⟩, .string ⟨#[100, 97, 121, 115]⟩] 9)).heap.size = w.heap.size + 1 + 1 + 1 + 1 by simp] at A4
 have A5 := among_5 s (((((w.alloc (.cells #[.string ⟨#[115]⟩, .string ⟨#[115, 101, 99]⟩, .string ⟨#[115, 101, 99, 115]⟩, .string ⟨#[115, 101, 99, 111, 110, 100]⟩, .string ⟨#[115, 101, 99, 111, 110, 100, 115]⟩] 9)).alloc (.cells #[.string ⟨#[109, 105, 110]⟩, .string ⟨#[109, 105, 110, 115]⟩, .string ⟨#[109, 105, 110, 117, 116, 101]⟩, .string ⟨#[109, 105, 110, 117, 116, 101, 115]⟩] 9)).alloc (.cells #[.string ⟨#[104]⟩, .string ⟨#[104, 111, 117, 114]⟩, .string ⟨#[104, 111, 117, 114, 115]⟩] 9)).alloc (.cells #[.string ⟨#[100]⟩, .string ⟨#[100, 97, 121]⟩, .string ⟨#[100, 97, 121, 115]⟩] 9)).alloc (.cells #[.string ⟨#[119]⟩, .string ⟨#[119, 101, 101, 107]⟩, .string ⟨#[119, 101, 101, 107, 115]⟩] 9))
 rw [h5] at A5
 rw [show (((((w.alloc (.cells #[.string ⟨#[115]⟩, .string ⟨#[115, 101, 99]⟩, .string ⟨#[115, 101, 99, 115]⟩, .string ⟨#[115, 101, 99, 111, 110, 100]⟩, .string ⟨#[115, 101, 99, 111, 110, 100, 115]⟩] 9)).alloc (.cells #[.string ⟨#[109, 105, 110]⟩, .string ⟨#[109, 105, 110, 115]⟩, .string ⟨#[109, 105, 110, 117, 116, 101]⟩, .string ⟨#[109, 105, 110, 117, 116, 101, 115]⟩] 9)).alloc (.cells #[.string ⟨#[104]⟩, .string ⟨#[104, 111, 117, 114]⟩, .string ⟨#[104, 111, 117, 114, 115]⟩] 9)).alloc (.cells #[.string ⟨#[100]⟩, .string ⟨#[100, 97, 121]⟩, .string ⟨#[100, 97, 121, 115]⟩] 9)).alloc (.cells #[.string ⟨#[119]⟩, .string ⟨#[119, 101, 101, 107]⟩, .string ⟨#[119, 101, 101, 107, 115]⟩] 9)).heap.size = w.heap.size + 1 + 1 + 1 + 1 + 1 by simp] at A5
 have A6 := among_6 s ((((((w.alloc (.cells #[.string ⟨#[115]⟩, .string ⟨#[115, 101, 99]⟩, .string ⟨#[115, 101, 99, 115]⟩, .string ⟨#[115, 101, 99, 111, 110, 100]⟩, .string ⟨#[115, 101, 99, 111, 110, 100, 115]⟩] 9)).alloc (.cells #[.string ⟨#[109, 105, 110]⟩, .string ⟨#[109, 105, 110, 115]⟩, .string ⟨#[109, 105, 110, 117, 116, 101]⟩, .string ⟨#[109, 105, 110, 117, 116, 101, 115]⟩] 9)).alloc (.cells #[.string ⟨#[104]⟩, .string ⟨#[104, 111, 117, 114]⟩, .string ⟨#[104, 111, 117, 114, 115]⟩] 9)).alloc (.cells #[.string ⟨#[100]⟩, .string ⟨#[100, 97, 121]⟩, .string ⟨#[100, 97, 121, 115]⟩] 9)).alloc (.cells #[.string ⟨#[119]⟩, .string ⟨#[119, 101, 101, 107]⟩, .string ⟨#[119, 101, 101, 107, 115]⟩] 9)).alloc (.cells #[.string ⟨#[109, 111, 110]⟩, .string ⟨#[109, 111, 110, 116, 104]⟩, .string ⟨#[109, 111, 110, 116, 104, 115]⟩] 9))
 rw [h6] at A6
 rw [show ((((((w.alloc (.cells #[.string ⟨#[115]⟩, .string ⟨#[115, 101, 99]⟩, .string ⟨#[115, 101, 99, 115]⟩, .string ⟨#[115, 101, 99, 111, 110, 100]⟩, .string ⟨#[115, 101, 99, 111, 110, 100, 115]⟩] 9)).alloc (.cells #[.string ⟨#[109, 105, 110]⟩, .string ⟨#[109, 105, 110, 115]⟩, .string ⟨#[109, 105, 110, 117, 116, 101]⟩, .string ⟨#[109, 105, 110, 117, 116, 101, 115]⟩] 9)).alloc (.cells #[.string ⟨#[104]⟩, .string ⟨#[104, 111, 117, 114]⟩, .string ⟨#[104, 111, 117, 114, 115]⟩] 9)).alloc (.cells #[.string ⟨#[100]⟩, .string ⟨#[100, 97, 121]⟩, .string ⟨#[100, 97, 121, 115]⟩] 9)).alloc (.cells #[.string ⟨#[119]⟩, .string ⟨#[119, 101, 101, 107]⟩, .string ⟨#[119, 101, 101, 107, 115]⟩] 9)).alloc (.cells #[.string ⟨#[109, 111, 110]⟩, .string ⟨#[109, 111, 110, 116, 104]⟩, .string ⟨#[109, 111, 110, 116, 104, 115]⟩] 9)).heap.size = w.heap.size + 1 + 1 + 1 + 1 + 1 + 1 by simp] at A6
 clear h0 h1 h2 h3 h4 h5 h6
 go_enter Tryz.func124, Tryz.ntmps124
 go_upto_region 3 with (go_at_call 143; refine A0.mono ?_; rintro e w' ⟨rfl, rfl⟩)
 go_upto_region 5 with (go_at_call 143; refine A1.mono ?_; rintro e w' ⟨rfl, rfl⟩)
 go_upto_region 7 with (go_at_call 143; refine A2.mono ?_; rintro e w' ⟨rfl, rfl⟩)
 go_upto_region 9 with (go_at_call 143; refine A3.mono ?_; rintro e w' ⟨rfl, rfl⟩)
 go_upto_region 11 with (go_at_call 143; refine A4.mono ?_; rintro e w' ⟨rfl, rfl⟩)
 go_upto_region 13 with (go_at_call 143; refine A5.mono ?_; rintro e w' ⟨rfl, rfl⟩)
 go_wp2_with (go_at_call 143; refine A6.mono ?_; rintro e w' ⟨rfl, rfl⟩)
 go_ret
 exact ⟨rfl, (Gr.alloc (Gr.alloc (Gr.alloc (Gr.alloc (Gr.alloc (Gr.alloc (Gr.alloc (Gr.refl w) _) _) _) _) _) _) _)⟩
theorem span_unit (s : ByteArray) (w : World) : Calls Tryz.prog 124 #[.string s] w fun e w' => e = .returned (.int .i64 (unitS s.data.toList : Nat)) ∧ Gr w w' := by
 have hu : unitS s.data.toList = unitF s.data.toList names := rfl
 unfold names at hu
 simp only [unitF] at hu
 cases h0 : inLU s.data.toList [[115], [115, 101, 99], [115, 101, 99, 115], [115, 101, 99, 111, 110, 100], [115, 101, 99, 111, 110, 100, 115]]
 rotate_left
 ·
  have e : unitS s.data.toList = 1 := by rw [hu, h0]; rfl
  rw [e]
  exact span_unit_0 s h0 w
 cases h1 : inLU s.data.toList [[109, 105, 110], [109, 105, 110, 115], [109, 105, 110, 117, 116, 101], [109, 105, 110, 117, 116, 101, 115]]
 rotate_left
 ·
  have e : unitS s.data.toList = 60 := by rw [hu, h0, h1]; rfl
  rw [e]
  exact span_unit_1 s h0 h1 w
 cases h2 : inLU s.data.toList [[104], [104, 111, 117, 114], [104, 111, 117, 114, 115]]
 rotate_left
 ·
  have e : unitS s.data.toList = 3600 := by rw [hu, h0, h1, h2]; rfl
  rw [e]
  exact span_unit_2 s h0 h1 h2 w
 cases h3 : inLU s.data.toList [[100], [100, 97, 121], [100, 97, 121, 115]]
 rotate_left
 ·
  have e : unitS s.data.toList = 86400 := by rw [hu, h0, h1, h2, h3]; rfl
  rw [e]
  exact span_unit_3 s h0 h1 h2 h3 w
 cases h4 : inLU s.data.toList [[119], [119, 101, 101, 107], [119, 101, 101, 107, 115]]
 rotate_left
 ·
  have e : unitS s.data.toList = 604800 := by rw [hu, h0, h1, h2, h3, h4]; rfl
  rw [e]
  exact span_unit_4 s h0 h1 h2 h3 h4 w
 cases h5 : inLU s.data.toList [[109, 111, 110], [109, 111, 110, 116, 104], [109, 111, 110, 116, 104, 115]]
 rotate_left
 ·
  have e : unitS s.data.toList = 2592000 := by rw [hu, h0, h1, h2, h3, h4, h5]; rfl
  rw [e]
  exact span_unit_5 s h0 h1 h2 h3 h4 h5 w
 cases h6 : inLU s.data.toList [[121], [121, 101, 97, 114], [121, 101, 97, 114, 115]]
 rotate_left
 ·
  have e : unitS s.data.toList = 31536000 := by rw [hu, h0, h1, h2, h3, h4, h5, h6]; rfl
  rw [e]
  exact span_unit_6 s h0 h1 h2 h3 h4 h5 h6 w
 have e : unitS s.data.toList = 0 := by rw [hu, h0, h1, h2, h3, h4, h5, h6]; rfl
 rw [e]
 exact span_unit_no s h0 h1 h2 h3 h4 h5 h6 w
end Go.Proofs.YtjapddfnpmlifaaGreatDoor
