/- Whole numbers: dec.number, dec.Whole of the program; strip, Whole of the reference. -/
import Derived.Test.YtfnpmdcbhjabmaaDoorRuDec
import Derived.Lib.IndexBytes
namespace Go.Proofs.YtfnpmdcbhjabmaaDoor
set_option linter.unusedVariables false
set_option linter.unusedSimpArgs false
open Go.RowKit

theorem ret2 {a b : Int} {c d : Bool} (h : a = b) (k : c = d) : Ending.returned (.tuple #[.int .i64 a, .bool c]) = .returned (.tuple #[.int .i64 b, .bool d]) := by rw [h, k]
theorem numS_cons (c : UInt8) (r : List UInt8) (n : Nat) (h1 : 48 ≤ c.toNat) (h2 : c.toNat ≤ 57) (hn : n ≤ maxN) : ((4611686018427387904 - ((c.toNat : Int) - 48)) / 10 < (n : Int) → numS (c :: r) n = none) ∧ (¬ (4611686018427387904 - ((c.toNat : Int) - 48)) / 10 < (n : Int) → numS (c :: r) n = numS r (n * 10 + (c.toNat - 48)) ∧ n * 10 + (c.toNat - 48) ≤ maxN) := by
  have e : (4611686018427387904 - ((c.toNat : Int) - 48)) / 10 = (((maxN - (c.toNat - 48)) / 10 : Nat) : Int) := by
    show _ = (((4611686018427387904 - (c.toNat - 48)) / 10 : Nat) : Int)
    omega
  rw [e]
  constructor
  · intro h
    unfold numS
    rw [show Nat.blt ((maxN - (c.toNat - 48)) / 10) n = true by rw [Nat.blt_eq]; omega]
    rfl
  · intro h
    constructor
    · conv => lhs; unfold numS
      rw [show Nat.blt ((maxN - (c.toNat - 48)) / 10) n = false by rw [Bool.eq_false_iff, ne_eq, Nat.blt_eq]; omega]
      rfl
    · have h9 : n ≤ (maxN - (c.toNat - 48)) / 10 := by omega
      clear e h
      show _ ≤ 4611686018427387904
      have h9 : n ≤ (4611686018427387904 - (c.toNat - 48)) / 10 := h9
      omega
/-- a number, or none. -/
def RetN (x : Option Nat) (w : World) (e : Ending) (w' : World) : Prop := e = .returned (.tuple #[.int .i64 (x.getD 0 : Nat), .bool x.isSome]) ∧ w = w'
theorem RetN.some' {x : Option Nat} {n : Nat} {w : World} (h : x = some n) : RetN x w (.returned (.tuple #[.int .i64 (n : Int), .bool true])) w := by subst h; exact ⟨rfl, rfl⟩
theorem RetN.none' {x : Option Nat} {w : World} (h : x = none) : RetN x w (.returned (.tuple #[.int .i64 0, .bool false])) w := by subst h; exact ⟨rfl, rfl⟩
set_option maxRecDepth 100000 in
set_option maxHeartbeats 3200000 in
theorem dec_number (s : ByteArray) (hs : (s.size : Int) ≤ 4096) (hd : s.data.toList.all isDg = true) (w : World) : Calls Tryd.prog 54 #[.string s] w (RetN (numS s.data.toList 0) w) := by
  have Hd := Lib.hid hd
  clear hd
  go_enter Tryd.func54, Tryd.ntmps54
  go_wp2
  go_loop [4, 9] (fun v i => ∃ k n : Nat, k ≤ s.size ∧ i = .int .i64 k ∧ v = .int .i64 n ∧ n ≤ maxN ∧ numS (s.data.toList.drop k) n = numS s.data.toList 0) (fun _ i => s.size - (intOf i).toNat)
  case atStart => exact ⟨0, 0, Nat.zero_le _, rfl, rfl, Nat.zero_le _, rfl⟩
  case round =>
    obtain ⟨k, n, hk, rfl, rfl, hn, he⟩ := hrel
    have hn1 : (n : Int) ≤ 4611686018427387904 := by have : n ≤ 4611686018427387904 := hn; omega
    have He := Lib.hid he
    have Hn := Lib.hid hn
    clear he hn
    by_cases hlt : k < s.size
    · have hlt' : (k : Int) < (s.size : Int) := by omega
      have hd := Hd.out
      have hsl : s.data.toList.length = s.size := by simp
      obtain ⟨c, hc⟩ : ∃ c, c = s[k] := ⟨_, rfl⟩
      have hdr : s.data.toList.drop k = c :: s.data.toList.drop (k + 1) := by rw [hc]; exact List.drop_eq_getElem_cons (by simpa using hlt)
      have hcd : isDg c = true := List.all_eq_true.1 hd c (List.mem_of_mem_drop (i := k) (by rw [hdr]; exact List.mem_cons_self))
      obtain ⟨c1, c2⟩ := (isDg_iff c).1 hcd
      obtain ⟨n1, n2⟩ := numS_cons c (s.data.toList.drop (k + 1)) n c1 c2 Hn.out
      have hc1 : (48 : Int) ≤ (s[k].toNat : Int) := by rw [← hc]; omega
      have hc2 : (s[k].toNat : Int) ≤ 57 := by rw [← hc]; omega
      rw [hc] at n1 n2 hdr
      have e0 := He.out
      rw [hdr] at e0
      by_cases hb : (4611686018427387904 - ((s[k].toNat : Int) - 48)) / 10 < (n : Int)
      · have hx := Lib.hid (e0.symm.trans (n1 hb))
        clear e0 n1 n2 hdr hcd hd hc c1 c2 hsl
        go_wp2
        go_ret2
        exact RetN.none' hx.out
      · obtain ⟨n3, n4⟩ := n2 hb
        have hx := Lib.hid (And.intro (n3.symm.trans e0) n4)
        have hb2 : (n : Int) * 10 + ((s[k].toNat : Int) - 48) ≤ 4611686018427387904 := by rw [hc] at c1; unfold maxN at n4; omega
        clear e0 n1 n2 n3 n4 hdr hcd hd hc c1 c2 hsl
        go_wp2
        go_round
        case rel => exact ⟨k + 1, n * 10 + (s[k].toNat - 48), by omega, by go_num, by go_num, hx.out.2, hx.out.1⟩
        case measure => simp [intOf]; omega
    · have hks : k = s.size := by omega
      have hge : ¬ (k : Int) < (s.size : Int) := by omega
      have e0 := He.out
      rw [List.drop_eq_nil_of_le (by simp; omega)] at e0
      have hx := Lib.hid e0
      clear e0 hks
      go_wp2
      go_ret2
      exact RetN.some' hx.out.symm

theorem trim_minus (l : List UInt8) : Lib.trimPrefix l [45] = tailS l := by
  match l with
  | [] => rfl
  | c :: r =>
    unfold Lib.trimPrefix tailS minusS
    show (if ((45 : UInt8) == c && true) = true then _ else _) = bif c == 45 then r else c :: r
    by_cases h : c = 45
    · subst h; rfl
    · have h1 : (c == 45) = false := beq_eq_false_iff_ne.2 h
      have h2 : ((45 : UInt8) == c) = false := beq_eq_false_iff_ne.2 (Ne.symm h)
      rw [h1, h2]; rfl
/-- what a whole number's reader hands back. -/
def RetV (x : Option Int) (w : World) (e : Ending) (w' : World) : Prop := e = .returned (.tuple #[.int .i64 (x.getD 0), .bool x.isSome]) ∧ w = w'
theorem RetV.some' {x : Option Int} {n : Int} {w : World} (h : x = some n) : RetV x w (.returned (.tuple #[.int .i64 n, .bool true])) w := by subst h; exact ⟨rfl, rfl⟩
theorem RetV.none' {x : Option Int} {w : World} (h : x = none) : RetV x w (.returned (.tuple #[.int .i64 0, .bool false])) w := by subst h; exact ⟨rfl, rfl⟩
theorem tail_len (l : List UInt8) : (tailS l).length = bif minusS l then l.length - 1 else l.length := by
  unfold tailS
  cases minusS l <;> simp
theorem minus_pos {l : List UInt8} (h : minusS l = true) : 0 < l.length := by
  cases l with
  | nil => cases h
  | cons c r => simp
set_option maxRecDepth 100000 in
set_option maxHeartbeats 3200000 in
theorem dec_Whole (s : ByteArray) (hs : (s.size : Int) ≤ 4096) (w : World) : Calls Tryd.prog 38 #[.string s] w (RetV (wholeS s.data.toList) w) := by
  obtain ⟨d, hd⟩ : ∃ d : ByteArray, d = ⟨(Lib.trimPrefix s.data.toList [45]).toArray⟩ := ⟨_, rfl⟩
  have hdl : d.data.toList = tailS s.data.toList := by rw [hd, trim_minus]
  have hsl : s.data.toList.length = s.size := by simp
  have hds : d.size = bif minusS s.data.toList then s.size - 1 else s.size := by
    have : d.size = d.data.toList.length := by simp
    rw [this, hdl, tail_len, hsl]
  have hdz : d.size ≤ s.size := by rw [hds]; cases minusS s.data.toList <;> simp
  have HTP := Lib.hid (Tryd.strings_TrimPrefix s ⟨#[45]⟩)
  have HD := Lib.hid hd
  have HA := Lib.hid (dec_all d (by omega))
  have HN := fun h w => dec_number d (by omega) h w
  have HW := Lib.hid (show wholeS s.data.toList = (bif allDg d.data.toList then numS d.data.toList 0 else none).map (fun n : Nat => bif minusS s.data.toList then -(n : Int) else (n : Int)) by rw [hdl]; rfl)
  have HW0 := Lib.hid (show wholeN s.data.toList = (bif allDg d.data.toList then numS d.data.toList 0 else none) by rw [hdl]; rfl)
  clear hd hdl hsl
  cases ha : allDg d.data.toList
  · rw [ha] at HA HW
    have hx : Hid (wholeS s.data.toList = none) := Lib.hid HW.out
    clear ha HN HW hds
    go_enter Tryd.func38, Tryd.ntmps38
    go_wp2_with (first | (go_at_call 52; refine (HTP.out _).mono ?_; rintro e w' ⟨rfl, rfl⟩; rw [show (⟨(Lib.trimPrefix s.data.toList (⟨#[45]⟩ : ByteArray).data.toList).toArray⟩ : ByteArray) = d from HD.out.symm]) | (go_at_call 53; refine (HA.out _).mono ?_; rintro e w' ⟨rfl, rfl⟩))
    go_ret2
    exact RetV.none' hx.out
  · have hall : d.data.toList.all isDg = true := by unfold allDg at ha; rw [Bool.and_eq_true] at ha; exact ha.1
    have HN2 := Lib.hid (HN hall)
    rw [ha] at HA HW HW0
    have hx := HW.out
    clear ha HN HW hall
    rw [cond_true] at hx
    cases hnum : numS d.data.toList 0 with
    | none =>
      rw [hnum] at HN2 hx
      have hy : Hid (wholeS s.data.toList = none) := Lib.hid hx
      clear hnum hx
      cases hm : minusS s.data.toList
      · rw [hm] at hds
        have hl : ¬ (d.size : Int) < (s.size : Int) := by simp only [cond_false] at hds; omega
        clear hds hm
        go_enter Tryd.func38, Tryd.ntmps38
        go_wp2_with (first | (go_at_call 52; refine (HTP.out _).mono ?_; rintro e w' ⟨rfl, rfl⟩; rw [show (⟨(Lib.trimPrefix s.data.toList (⟨#[45]⟩ : ByteArray).data.toList).toArray⟩ : ByteArray) = d from HD.out.symm]) | (go_at_call 53; refine (HA.out _).mono ?_; rintro e w' ⟨rfl, rfl⟩) | (go_at_call 54; refine (HN2.out _).mono ?_; rintro e w' ⟨rfl, rfl⟩))
        go_ret2
        exact RetV.none' hy.out
      · have h0 := minus_pos hm
        rw [hm] at hds
        have hl : (d.size : Int) < (s.size : Int) := by simp at h0; simp only [cond_true] at hds; omega
        clear hds hm h0
        go_enter Tryd.func38, Tryd.ntmps38
        go_wp2_with (first | (go_at_call 52; refine (HTP.out _).mono ?_; rintro e w' ⟨rfl, rfl⟩; rw [show (⟨(Lib.trimPrefix s.data.toList (⟨#[45]⟩ : ByteArray).data.toList).toArray⟩ : ByteArray) = d from HD.out.symm]) | (go_at_call 53; refine (HA.out _).mono ?_; rintro e w' ⟨rfl, rfl⟩) | (go_at_call 54; refine (HN2.out _).mono ?_; rintro e w' ⟨rfl, rfl⟩))
        go_ret2
        exact RetV.none' hy.out
    | some n =>
      rw [hnum] at HN2 hx
      have hnle : n ≤ maxN := wholeN_le (l := s.data.toList) (by rw [HW0.out, hnum]; rfl)
      have hn1 : (n : Int) ≤ 4611686018427387904 := by have : n ≤ 4611686018427387904 := hnle; omega
      cases hm : minusS s.data.toList
      · rw [hm] at hds hx
        have hl : ¬ (d.size : Int) < (s.size : Int) := by simp only [cond_false] at hds; omega
        have hy : Hid (wholeS s.data.toList = some (n : Int)) := Lib.hid hx
        clear hds hm hx hnum hnle
        go_enter Tryd.func38, Tryd.ntmps38
        go_wp2_with (first | (go_at_call 52; refine (HTP.out _).mono ?_; rintro e w' ⟨rfl, rfl⟩; rw [show (⟨(Lib.trimPrefix s.data.toList (⟨#[45]⟩ : ByteArray).data.toList).toArray⟩ : ByteArray) = d from HD.out.symm]) | (go_at_call 53; refine (HA.out _).mono ?_; rintro e w' ⟨rfl, rfl⟩) | (go_at_call 54; refine (HN2.out _).mono ?_; rintro e w' ⟨rfl, rfl⟩))
        go_ret2
        exact RetV.some' hy.out
      · have h0 := minus_pos hm
        rw [hm] at hds hx
        have hl : (d.size : Int) < (s.size : Int) := by simp at h0; simp only [cond_true] at hds; omega
        have hy : Hid (wholeS s.data.toList = some (-(n : Int))) := Lib.hid hx
        clear hds hm h0 hx hnum hnle
        go_enter Tryd.func38, Tryd.ntmps38
        go_wp2_with (first | (go_at_call 52; refine (HTP.out _).mono ?_; rintro e w' ⟨rfl, rfl⟩; rw [show (⟨(Lib.trimPrefix s.data.toList (⟨#[45]⟩ : ByteArray).data.toList).toArray⟩ : ByteArray) = d from HD.out.symm]) | (go_at_call 53; refine (HA.out _).mono ?_; rintro e w' ⟨rfl, rfl⟩) | (go_at_call 54; refine (HN2.out _).mono ?_; rintro e w' ⟨rfl, rfl⟩))
        go_ret2
        exact RetV.some' hy.out
set_option maxRecDepth 100000 in
set_option maxHeartbeats 3200000 in
theorem ref2_all (s : ByteArray) (hs : (s.size : Int) ≤ 4096) (w : World) : Calls Tryd.prog 40 #[.string s] w fun e w' => e = .returned (.bool (allDg s.data.toList)) ∧ w = w' := by
  go_enter Tryd.func40, Tryd.ntmps40
  go_wp2
  go_loop [3] (fun i => ∃ k : Nat, k ≤ s.size ∧ i = .int .i64 k ∧ (s.data.toList.take k).all isDg = true) (fun i => s.size - (intOf i).toNat)
  case atStart => exact ⟨0, Nat.zero_le _, rfl, rfl⟩
  case round =>
    obtain ⟨k, hk, rfl, ha⟩ := hrel
    have Ha := Lib.hid ha
    clear ha
    by_cases hlt : k < s.size
    · have hlt' : (k : Int) < (s.size : Int) := by omega
      have ht := all_take s k hlt
      have HD := ref2_digit s[k]
      cases hd : isDg s[k]
      · rw [hd] at HD ht
        have hn : allDg s.data.toList = false := all_no ht
        have Hn := Lib.hid hn
        clear ht hd hn
        go_wp2_with (go_at_call 58; refine (HD _).mono ?_; rintro e w' ⟨rfl, rfl⟩)
        go_ret
        exact ⟨ret_b Hn.out.symm, rfl⟩
      · rw [hd] at HD ht
        have Ht := Lib.hid ht
        clear ht hd
        go_wp2_with (go_at_call 58; refine (HD _).mono ?_; rintro e w' ⟨rfl, rfl⟩)
        go_round
        case rel => exact ⟨k + 1, by omega, by go_num, by rw [Ht.out, Ha.out]; rfl⟩
        case measure => simp [intOf]; omega
    · have hks : k = s.size := by omega
      have hge : ¬ (k : Int) < (s.size : Int) := by omega
      have hall : s.data.toList.all isDg = true := by
        have := Ha.out
        rwa [List.take_of_length_le (by simp; omega)] at this
      have Hall := Lib.hid hall
      clear hall hks
      by_cases h0 : s.size = 0
      · obtain rfl : s = ⟨#[]⟩ := by
          apply ByteArray.ext; apply Array.eq_empty_of_size_eq_zero; exact h0
        clear h0
        go_wp2
        go_ret
        exact ⟨rfl, rfl⟩
      · have e0 : allDg s.data.toList = true := by
          unfold allDg
          rw [Hall.out, Bool.true_and, Bool.not_eq_true', List.isEmpty_eq_false_iff]
          exact ne_nil h0
        have E0 := Lib.hid e0
        have n1 : s.toList.isEmpty = false := by rw [toList_data_ru]; rw [List.isEmpty_eq_false_iff]; exact ne_nil h0
        have n2 : s.data.toList.isEmpty = false := by rw [List.isEmpty_eq_false_iff]; exact ne_nil h0
        have n3 : (s.toList == []) = false := by rw [toList_data_ru, beq_eq_false_iff_ne]; exact ne_nil h0
        have n4 : (0 : Int) < (s.size : Int) := by omega
        clear h0 e0
        go_wp2
        go_ret
        first | exact ⟨ret_b E0.out.symm, rfl⟩ | exact ⟨ret_b (by rw [E0.out]; exact decide_eq_true (by omega)), rfl⟩

end Go.Proofs.YtfnpmdcbhjabmaaDoor
