/- Intervals, and numbers that may be intervals. -/
import Derived.Test.YtfnpmdcbhjabmaaDoorRuUnit
namespace Go.Proofs.YtfnpmdcbhjabmaaDoor
set_option linter.unusedVariables false
set_option linter.unusedSimpArgs false
open Go.RowKit

theorem whole_digits (l : List UInt8) (h : l.all isDg = true) : wholeS l = (wholeN l).map (fun n : Nat => (n : Int)) := by
  have : minusS l = false := by
    cases l with
    | nil => rfl
    | cons c r =>
      simp only [List.all_cons, Bool.and_eq_true, isDg_iff] at h
      refine beq_eq_false_iff_ne.2 fun e => ?_
      subst e
      have := h.1.1
      revert this
      decide
  unfold wholeS
  rw [this]
  rfl
theorem unitF_le (l : List UInt8) : ∀ m : List (List (List UInt8) × Nat), (∀ x ∈ m, x.2 ≤ 31536000) → unitF l m ≤ 31536000
  | [], _ => Nat.zero_le _
  | (a, u) :: r, h => by
    unfold unitF
    cases inL l a
    · exact unitF_le l r (fun x hx => h x (List.mem_cons_of_mem _ hx))
    · exact h (a, u) List.mem_cons_self
theorem unitS_le (l : List UInt8) : unitS l ≤ 31536000 := unitF_le l names (by decide)
/-- an interval's reader hands back. -/
def RetI (x : Option Nat) (w : World) (e : Ending) (w' : World) : Prop := e = .returned (.tuple #[.int .i64 (x.getD 0 : Nat), .bool x.isSome]) ∧ Gr w w'
theorem RetI.some' {x : Option Nat} {n : Int} {m : Nat} {w w' : World} (h : x = some m) (hn : n = m) (g : Gr w w') : RetI x w (.returned (.tuple #[.int .i64 n, .bool true])) w' := by subst h hn; exact ⟨rfl, g⟩
theorem RetI.none' {x : Option Nat} {w w' : World} (h : x = none) (g : Gr w w') : RetI x w (.returned (.tuple #[.int .i64 0, .bool false])) w' := by subst h; exact ⟨rfl, g⟩
set_option maxRecDepth 100000 in
set_option maxHeartbeats 6400000 in
theorem span_Interval (s : ByteArray) (hs : (s.size : Int) ≤ 4096) (h : signB s.data.toList = false) (w : World) : Calls Tryd.prog 39 #[.string s] w (RetI (intvS s.data.toList) w) := by
  obtain ⟨k, hk⟩ : ∃ k, k = dgN s.data.toList := ⟨_, rfl⟩
  have hkl : k ≤ s.size := by rw [hk]; have := dgN_le s.data.toList; simpa using this
  obtain ⟨A, hA⟩ : ∃ A : ByteArray, A = s.extract 0 k := ⟨_, rfl⟩
  obtain ⟨B, hB⟩ : ∃ B : ByteArray, B = s.extract k s.size := ⟨_, rfl⟩
  have hAl : A.data.toList = s.data.toList.take k := by rw [hA, Lib.extract_data]; simp
  have hBl : B.data.toList = s.data.toList.drop k := by rw [hB, Lib.extract_to_end]
  have hAs : A.size ≤ s.size := by rw [hA, ByteArray.size_extract]; omega
  have hBs : B.size ≤ s.size := by rw [hB, ByteArray.size_extract]; omega
  obtain ⟨u, hu⟩ : ∃ u, u = unitS B.data.toList := ⟨_, rfl⟩
  have hW : wholeS A.data.toList = (wholeN A.data.toList).map (fun n : Nat => (n : Int)) := whole_digits _ (by rw [hAl, hk]; exact dgN_take _)
  have hI : intvS s.data.toList = match wholeN A.data.toList with | none => none | some n => bif u == 0 then none else bif Nat.blt (maxTime / u) n then none else some (n * u) := by
    rw [hu, hAl, hBl, hk]
    rfl
  have hki : (k : Int) ≤ (s.size : Int) := by omega
  have HSG := Lib.hid (span_signed s h)
  have HDG := Lib.hid (span_digits s hs)
  rw [← hk] at HDG
  have HWH := Lib.hid (dec_Whole A (by omega))
  have HUN := Lib.hid (span_unit B)
  rw [← hu] at HUN
  have hul : u ≤ 31536000 := by rw [hu]; exact unitS_le _
  have hnl := fun n (h : wholeN A.data.toList = some n) => wholeN_le h
  have HA := Lib.hid hA
  have HB := Lib.hid hB
  clear hk hA hB hAl hBl hAs hBs hu h
  cases hN : wholeN A.data.toList with
  | none =>
    have hx : Hid (intvS s.data.toList = none) := Lib.hid (by rw [hI, hN])
    have hw : wholeS A.data.toList = none := by rw [hW, hN]; rfl
    rw [hw] at HWH
    clear hw hW hI hN hnl
    go_enter Tryd.func39, Tryd.ntmps39
    go_wp2_with (first | (go_at_call 55; refine (HSG.out _).mono ?_; rintro e w' ⟨rfl, rfl⟩) | (go_at_call 56; refine (HDG.out _).mono ?_; rintro e w' ⟨rfl, rfl⟩) | (go_at_call 38; rw [← HA.out]; refine (HWH.out _).mono ?_; rintro e w' ⟨rfl, rfl⟩) | (go_at_call 57; rw [← HB.out]; refine (HUN.out _).mono ?_; rintro e w1 ⟨rfl, g1⟩))
    go_ret2
    exact RetI.none' hx.out g1
  | some n =>
    have hn := hnl n hN
    have hn1 : (n : Int) ≤ 4611686018427387904 := by have : n ≤ 4611686018427387904 := hn; omega
    have hw : wholeS A.data.toList = some (n : Int) := by rw [hW, hN]; rfl
    rw [hw] at HWH
    rw [hN] at hI
    by_cases hu0 : u = 0
    · subst hu0
      have hx : Hid (intvS s.data.toList = none) := Lib.hid (by rw [hI]; rfl)
      clear hw hW hI hN hnl hn
      go_enter Tryd.func39, Tryd.ntmps39
      go_wp2_with (first | (go_at_call 55; refine (HSG.out _).mono ?_; rintro e w' ⟨rfl, rfl⟩) | (go_at_call 56; refine (HDG.out _).mono ?_; rintro e w' ⟨rfl, rfl⟩) | (go_at_call 38; rw [← HA.out]; refine (HWH.out _).mono ?_; rintro e w' ⟨rfl, rfl⟩) | (go_at_call 57; rw [← HB.out]; refine (HUN.out _).mono ?_; rintro e w1 ⟨rfl, g1⟩))
      go_ret2
      exact RetI.none' hx.out g1
    · have hu1 : (0 : Int) < (u : Int) := by omega
      have hub : (u == 0) = false := beq_eq_false_iff_ne.2 hu0
      have hui : ((u : Int) == 0) = false := beq_eq_false_iff_ne.2 (by omega)
      have hui2 : (u : Int) ≠ 0 := by omega
      have hdv : (4294967295 : Int) / (u : Int) = ((maxTime / u : Nat) : Int) := rfl
      by_cases hb : maxTime / u < n
      · have hx : Hid (intvS s.data.toList = none) := Lib.hid (by rw [hI]; simp only [hub, cond_false, (by rw [Nat.blt_eq]; exact hb : Nat.blt (maxTime / u) n = true), cond_true])
        have hbi : (4294967295 : Int) / (u : Int) < (n : Int) := by rw [hdv]; omega
        clear hw hW hI hN hnl hn hdv hb hub hu0
        go_enter Tryd.func39, Tryd.ntmps39
        go_wp2_with (first | (go_at_call 55; refine (HSG.out _).mono ?_; rintro e w' ⟨rfl, rfl⟩) | (go_at_call 56; refine (HDG.out _).mono ?_; rintro e w' ⟨rfl, rfl⟩) | (go_at_call 38; rw [← HA.out]; refine (HWH.out _).mono ?_; rintro e w' ⟨rfl, rfl⟩) | (go_at_call 57; rw [← HB.out]; refine (HUN.out _).mono ?_; rintro e w1 ⟨rfl, g1⟩))
        go_ret2
        exact RetI.none' hx.out g1
      · have hbf : Nat.blt (maxTime / u) n = false := by rw [Bool.eq_false_iff, ne_eq, Nat.blt_eq]; exact hb
        have hx : Hid (intvS s.data.toList = some (n * u)) := Lib.hid (by rw [hI]; simp only [hub, hbf, cond_false])
        have hbi : ¬ (4294967295 : Int) / (u : Int) < (n : Int) := by rw [hdv]; omega
        have hm1 : n * u ≤ maxTime := by
          have : n ≤ maxTime / u := by omega
          exact Nat.le_trans (Nat.mul_le_mul_right u this) (Nat.div_mul_le_self _ _)
        have hm2 : (n : Int) * (u : Int) ≤ 4294967295 := by
          have h : ((n * u : Nat) : Int) ≤ ((4294967295 : Nat) : Int) := Int.ofNat_le.2 hm1
          rw [Int.natCast_mul] at h
          exact h
        have hm3 : 0 ≤ (n : Int) * (u : Int) := Int.mul_nonneg (by omega) (by omega)
        clear hw hW hI hN hnl hn hdv hb hub hu0 hbf hm1
        go_enter Tryd.func39, Tryd.ntmps39
        go_wp2_with (first | (go_at_call 55; refine (HSG.out _).mono ?_; rintro e w' ⟨rfl, rfl⟩) | (go_at_call 56; refine (HDG.out _).mono ?_; rintro e w' ⟨rfl, rfl⟩) | (go_at_call 38; rw [← HA.out]; refine (HWH.out _).mono ?_; rintro e w' ⟨rfl, rfl⟩) | (go_at_call 57; rw [← HB.out]; refine (HUN.out _).mono ?_; rintro e w1 ⟨rfl, g1⟩))
        go_ret2
        exact RetI.some' hx.out (by first | exact (Int.natCast_mul _ _).symm | (rw [Int.natCast_mul]; simp only [Int.one_mul])) g1
set_option maxRecDepth 100000 in
set_option maxHeartbeats 6400000 in
theorem ref_Interval (s : ByteArray) (hs : (s.size : Int) ≤ 4096) (h : signB s.data.toList = false) (w : World) : Calls Tryd.prog 31 #[.string s] w (RetI (intvS s.data.toList) w) := by
  obtain ⟨k, hk⟩ : ∃ k, k = dgN s.data.toList := ⟨_, rfl⟩
  have hkl : k ≤ s.size := by rw [hk]; have := dgN_le s.data.toList; simpa using this
  obtain ⟨A, hA⟩ : ∃ A : ByteArray, A = s.extract 0 k := ⟨_, rfl⟩
  obtain ⟨B, hB⟩ : ∃ B : ByteArray, B = s.extract k s.size := ⟨_, rfl⟩
  have hAl : A.data.toList = s.data.toList.take k := by rw [hA, Lib.extract_data]; simp
  have hBl : B.data.toList = s.data.toList.drop k := by rw [hB, Lib.extract_to_end]
  have hAs : A.size ≤ s.size := by rw [hA, ByteArray.size_extract]; omega
  have hBs : B.size ≤ s.size := by rw [hB, ByteArray.size_extract]; omega
  obtain ⟨u, hu⟩ : ∃ u, u = unitS B.data.toList := ⟨_, rfl⟩
  have hW : wholeS A.data.toList = (wholeN A.data.toList).map (fun n : Nat => (n : Int)) := whole_digits _ (by rw [hAl, hk]; exact dgN_take _)
  have hI : intvS s.data.toList = match wholeN A.data.toList with | none => none | some n => bif u == 0 then none else bif Nat.blt (maxTime / u) n then none else some (n * u) := by
    rw [hu, hAl, hBl, hk]
    rfl
  have hki : (k : Int) ≤ (s.size : Int) := by omega
  obtain ⟨h0, h45, h43, n1, n2, n3⟩ := sign_no h
  have HWH := Lib.hid (ref2_Whole A (by omega))
  have HUN := Lib.hid (ref_unit B)
  rw [← hu] at HUN
  have hul : u ≤ 31536000 := by rw [hu]; exact unitS_le _
  have hnl := fun n (h : wholeN A.data.toList = some n) => wholeN_le h
  have HA := Lib.hid hA
  have HB := Lib.hid hB
  have Hk := Lib.hid hk
  have hk1 : k = 0 → wholeN A.data.toList = none := fun e => by rw [hAl, e]; rfl
  clear hk hA hB hAl hBl hAs hBs hu h
  cases hN : wholeN A.data.toList with
  | none =>
    have hx : Hid (intvS s.data.toList = none) := Lib.hid (by rw [hI, hN])
    have hw : wholeS A.data.toList = none := by rw [hW, hN]; rfl
    rw [hw] at HWH
    clear hw hW hI hN hnl
    go_enter Tryd.func31, Tryd.ntmps31
    go_wp2
    go_loop [5] (fun i => ∃ j : Nat, j ≤ s.size ∧ i = .int .i64 j ∧ j + dgN (s.data.toList.drop j) = dgN s.data.toList) (fun i => s.size - (intOf i).toNat)
    case atStart => exact ⟨0, Nat.zero_le _, rfl, by simp⟩
    case round =>
      obtain ⟨j, hj, rfl, ha⟩ := hrel
      have Ha := Lib.hid ha
      clear ha
      by_cases hgo : j < s.size ∧ isDg (s.data.toList.getD j 0) = true
      · obtain ⟨hlt, hd⟩ := hgo
        have hlt' : (j : Int) < (s.size : Int) := by omega
        have hd2 : isDg s[j] = true := by
          have : s.data.toList.getD j 0 = s[j] := by rw [List.getD_eq_getElem?_getD, List.getElem?_eq_getElem (by simpa using hlt)]; rfl
          rw [← this]; exact hd
        have HD := Lib.hid (ref16_digit s[j])
        rw [hd2] at HD
        have ht := dgN_at s j hlt
        have ha := Ha.out
        rw [ht, hd2] at ha
        have Ht : Hid (j + 1 + dgN (s.data.toList.drop (j + 1)) = dgN s.data.toList) := Lib.hid (by simp only [cond_true] at ha; omega)
        clear ht hd ha hd2
        go_wp2_with (go_at_call 42; refine (HD.out _).mono ?_; rintro e w' ⟨rfl, rfl⟩)
        go_round
        case rel => exact ⟨j + 1, by omega, by go_num, Ht.out⟩
        case measure => simp [intOf]; omega
      · have hjk : j = k := by
          rw [Hk.out, ← Ha.out]
          rcases Nat.lt_or_ge j s.size with hlt | hge
          · have hd2 : isDg s[j] = false := by
              have : s.data.toList.getD j 0 = s[j] := by rw [List.getD_eq_getElem?_getD, List.getElem?_eq_getElem (by simpa using hlt)]; rfl
              rw [← this]
              cases e : isDg (s.data.toList.getD j 0) with
              | false => rfl
              | true => exact absurd ⟨hlt, e⟩ hgo
            rw [dgN_at s j hlt, hd2]; rfl
          · rw [List.drop_eq_nil_of_le (by simp; omega)]; rfl
        subst hjk
        by_cases hlt : j < s.size
        · have hlt' : (j : Int) < (s.size : Int) := by omega
          have hd2 : isDg s[j] = false := by
            have : s.data.toList.getD j 0 = s[j] := by rw [List.getD_eq_getElem?_getD, List.getElem?_eq_getElem (by simpa using hlt)]; rfl
            rw [← this]
            cases e : isDg (s.data.toList.getD j 0) with
            | false => rfl
            | true => exact absurd ⟨hlt, e⟩ hgo
          have HD := Lib.hid (ref16_digit s[j])
          rw [hd2] at HD
          clear hgo hd2
          go_wp2_with (first | (go_at_call 42; refine (HD.out _).mono ?_; rintro e w' ⟨rfl, rfl⟩) | (go_at_call 30; rw [← HA.out]; refine (HWH.out _).mono ?_; rintro e w' ⟨rfl, rfl⟩) | (go_at_call 43; rw [← HB.out]; refine (HUN.out _).mono ?_; rintro e w' ⟨rfl, rfl⟩))
          all_goals
            go_ret2
            exact RetI.none' hx.out (Gr.refl _)
        · have hge : ¬ (j : Int) < (s.size : Int) := by omega
          clear hgo
          go_wp2_with (first | (go_at_call 30; rw [← HA.out]; refine (HWH.out _).mono ?_; rintro e w' ⟨rfl, rfl⟩) | (go_at_call 43; rw [← HB.out]; refine (HUN.out _).mono ?_; rintro e w' ⟨rfl, rfl⟩))
          all_goals
            go_ret2
            exact RetI.none' hx.out (Gr.refl _)
  | some n =>
    have hn := hnl n hN
    have hn1 : (n : Int) ≤ 4611686018427387904 := by have : n ≤ 4611686018427387904 := hn; omega
    have hw : wholeS A.data.toList = some (n : Int) := by rw [hW, hN]; rfl
    rw [hw] at HWH
    rw [hN] at hI
    have hk0 : ((k : Int) == 0) = false := by
      rw [beq_eq_false_iff_ne]
      intro e
      rw [hk1 (by omega)] at hN
      cases hN
    by_cases hu0 : u = 0
    · subst hu0
      have hx : Hid (intvS s.data.toList = none) := Lib.hid (by rw [hI]; rfl)
      clear hw hW hI hN hnl hn
      go_enter Tryd.func31, Tryd.ntmps31
      go_wp2
      go_loop [5] (fun i => ∃ j : Nat, j ≤ s.size ∧ i = .int .i64 j ∧ j + dgN (s.data.toList.drop j) = dgN s.data.toList) (fun i => s.size - (intOf i).toNat)
      case atStart => exact ⟨0, Nat.zero_le _, rfl, by simp⟩
      case round =>
        obtain ⟨j, hj, rfl, ha⟩ := hrel
        have Ha := Lib.hid ha
        clear ha
        by_cases hgo : j < s.size ∧ isDg (s.data.toList.getD j 0) = true
        · obtain ⟨hlt, hd⟩ := hgo
          have hlt' : (j : Int) < (s.size : Int) := by omega
          have hd2 : isDg s[j] = true := by
            have : s.data.toList.getD j 0 = s[j] := by rw [List.getD_eq_getElem?_getD, List.getElem?_eq_getElem (by simpa using hlt)]; rfl
            rw [← this]; exact hd
          have HD := Lib.hid (ref16_digit s[j])
          rw [hd2] at HD
          have ht := dgN_at s j hlt
          have ha := Ha.out
          rw [ht, hd2] at ha
          have Ht : Hid (j + 1 + dgN (s.data.toList.drop (j + 1)) = dgN s.data.toList) := Lib.hid (by simp only [cond_true] at ha; omega)
          clear ht hd ha hd2
          go_wp2_with (go_at_call 42; refine (HD.out _).mono ?_; rintro e w' ⟨rfl, rfl⟩)
          go_round
          case rel => exact ⟨j + 1, by omega, by go_num, Ht.out⟩
          case measure => simp [intOf]; omega
        · have hjk : j = k := by
            rw [Hk.out, ← Ha.out]
            rcases Nat.lt_or_ge j s.size with hlt | hge
            · have hd2 : isDg s[j] = false := by
                have : s.data.toList.getD j 0 = s[j] := by rw [List.getD_eq_getElem?_getD, List.getElem?_eq_getElem (by simpa using hlt)]; rfl
                rw [← this]
                cases e : isDg (s.data.toList.getD j 0) with
                | false => rfl
                | true => exact absurd ⟨hlt, e⟩ hgo
              rw [dgN_at s j hlt, hd2]; rfl
            · rw [List.drop_eq_nil_of_le (by simp; omega)]; rfl
          subst hjk
          by_cases hlt : j < s.size
          · have hlt' : (j : Int) < (s.size : Int) := by omega
            have hd2 : isDg s[j] = false := by
              have : s.data.toList.getD j 0 = s[j] := by rw [List.getD_eq_getElem?_getD, List.getElem?_eq_getElem (by simpa using hlt)]; rfl
              rw [← this]
              cases e : isDg (s.data.toList.getD j 0) with
              | false => rfl
              | true => exact absurd ⟨hlt, e⟩ hgo
            have HD := Lib.hid (ref16_digit s[j])
            rw [hd2] at HD
            clear hgo hd2
            go_wp2_with (first | (go_at_call 42; refine (HD.out _).mono ?_; rintro e w' ⟨rfl, rfl⟩) | (go_at_call 30; rw [← HA.out]; refine (HWH.out _).mono ?_; rintro e w' ⟨rfl, rfl⟩) | (go_at_call 43; rw [← HB.out]; refine (HUN.out _).mono ?_; rintro e w' ⟨rfl, rfl⟩))
            all_goals
              go_ret2
              exact RetI.none' hx.out (Gr.refl _)
          · have hge : ¬ (j : Int) < (s.size : Int) := by omega
            clear hgo
            go_wp2_with (first | (go_at_call 30; rw [← HA.out]; refine (HWH.out _).mono ?_; rintro e w' ⟨rfl, rfl⟩) | (go_at_call 43; rw [← HB.out]; refine (HUN.out _).mono ?_; rintro e w' ⟨rfl, rfl⟩))
            all_goals
              go_ret2
              exact RetI.none' hx.out (Gr.refl _)
    · have hu1 : (0 : Int) < (u : Int) := by omega
      have hub : (u == 0) = false := beq_eq_false_iff_ne.2 hu0
      have hui : ((u : Int) == 0) = false := beq_eq_false_iff_ne.2 (by omega)
      have hui2 : (u : Int) ≠ 0 := by omega
      have hdv : (4294967295 : Int) / (u : Int) = ((maxTime / u : Nat) : Int) := rfl
      by_cases hb : maxTime / u < n
      · have hx : Hid (intvS s.data.toList = none) := Lib.hid (by rw [hI]; simp only [hub, cond_false, (by rw [Nat.blt_eq]; exact hb : Nat.blt (maxTime / u) n = true), cond_true])
        have hbi : (4294967295 : Int) / (u : Int) < (n : Int) := by rw [hdv]; omega
        clear hw hW hI hN hnl hn hdv hb hub hu0
        go_enter Tryd.func31, Tryd.ntmps31
        go_wp2
        go_loop [5] (fun i => ∃ j : Nat, j ≤ s.size ∧ i = .int .i64 j ∧ j + dgN (s.data.toList.drop j) = dgN s.data.toList) (fun i => s.size - (intOf i).toNat)
        case atStart => exact ⟨0, Nat.zero_le _, rfl, by simp⟩
        case round =>
          obtain ⟨j, hj, rfl, ha⟩ := hrel
          have Ha := Lib.hid ha
          clear ha
          by_cases hgo : j < s.size ∧ isDg (s.data.toList.getD j 0) = true
          · obtain ⟨hlt, hd⟩ := hgo
            have hlt' : (j : Int) < (s.size : Int) := by omega
            have hd2 : isDg s[j] = true := by
              have : s.data.toList.getD j 0 = s[j] := by rw [List.getD_eq_getElem?_getD, List.getElem?_eq_getElem (by simpa using hlt)]; rfl
              rw [← this]; exact hd
            have HD := Lib.hid (ref16_digit s[j])
            rw [hd2] at HD
            have ht := dgN_at s j hlt
            have ha := Ha.out
            rw [ht, hd2] at ha
            have Ht : Hid (j + 1 + dgN (s.data.toList.drop (j + 1)) = dgN s.data.toList) := Lib.hid (by simp only [cond_true] at ha; omega)
            clear ht hd ha hd2
            go_wp2_with (go_at_call 42; refine (HD.out _).mono ?_; rintro e w' ⟨rfl, rfl⟩)
            go_round
            case rel => exact ⟨j + 1, by omega, by go_num, Ht.out⟩
            case measure => simp [intOf]; omega
          · have hjk : j = k := by
              rw [Hk.out, ← Ha.out]
              rcases Nat.lt_or_ge j s.size with hlt | hge
              · have hd2 : isDg s[j] = false := by
                  have : s.data.toList.getD j 0 = s[j] := by rw [List.getD_eq_getElem?_getD, List.getElem?_eq_getElem (by simpa using hlt)]; rfl
                  rw [← this]
                  cases e : isDg (s.data.toList.getD j 0) with
                  | false => rfl
                  | true => exact absurd ⟨hlt, e⟩ hgo
                rw [dgN_at s j hlt, hd2]; rfl
              · rw [List.drop_eq_nil_of_le (by simp; omega)]; rfl
            subst hjk
            by_cases hlt : j < s.size
            · have hlt' : (j : Int) < (s.size : Int) := by omega
              have hd2 : isDg s[j] = false := by
                have : s.data.toList.getD j 0 = s[j] := by rw [List.getD_eq_getElem?_getD, List.getElem?_eq_getElem (by simpa using hlt)]; rfl
                rw [← this]
                cases e : isDg (s.data.toList.getD j 0) with
                | false => rfl
                | true => exact absurd ⟨hlt, e⟩ hgo
              have HD := Lib.hid (ref16_digit s[j])
              rw [hd2] at HD
              clear hgo hd2
              go_wp2_with (first | (go_at_call 42; refine (HD.out _).mono ?_; rintro e w' ⟨rfl, rfl⟩) | (go_at_call 30; rw [← HA.out]; refine (HWH.out _).mono ?_; rintro e w' ⟨rfl, rfl⟩) | (go_at_call 43; rw [← HB.out]; refine (HUN.out _).mono ?_; rintro e w' ⟨rfl, rfl⟩))
              all_goals
                go_ret2
                exact RetI.none' hx.out (Gr.refl _)
            · have hge : ¬ (j : Int) < (s.size : Int) := by omega
              clear hgo
              go_wp2_with (first | (go_at_call 30; rw [← HA.out]; refine (HWH.out _).mono ?_; rintro e w' ⟨rfl, rfl⟩) | (go_at_call 43; rw [← HB.out]; refine (HUN.out _).mono ?_; rintro e w' ⟨rfl, rfl⟩))
              all_goals
                go_ret2
                exact RetI.none' hx.out (Gr.refl _)
      · have hbf : Nat.blt (maxTime / u) n = false := by rw [Bool.eq_false_iff, ne_eq, Nat.blt_eq]; exact hb
        have hx : Hid (intvS s.data.toList = some (n * u)) := Lib.hid (by rw [hI]; simp only [hub, hbf, cond_false])
        have hbi : ¬ (4294967295 : Int) / (u : Int) < (n : Int) := by rw [hdv]; omega
        have hm1 : n * u ≤ maxTime := by
          have : n ≤ maxTime / u := by omega
          exact Nat.le_trans (Nat.mul_le_mul_right u this) (Nat.div_mul_le_self _ _)
        have hm2 : (n : Int) * (u : Int) ≤ 4294967295 := by
          have h : ((n * u : Nat) : Int) ≤ ((4294967295 : Nat) : Int) := Int.ofNat_le.2 hm1
          rw [Int.natCast_mul] at h
          exact h
        have hm3 : 0 ≤ (n : Int) * (u : Int) := Int.mul_nonneg (by omega) (by omega)
        clear hw hW hI hN hnl hn hdv hb hub hu0 hbf hm1
        go_enter Tryd.func31, Tryd.ntmps31
        go_wp2
        go_loop [5] (fun i => ∃ j : Nat, j ≤ s.size ∧ i = .int .i64 j ∧ j + dgN (s.data.toList.drop j) = dgN s.data.toList) (fun i => s.size - (intOf i).toNat)
        case atStart => exact ⟨0, Nat.zero_le _, rfl, by simp⟩
        case round =>
          obtain ⟨j, hj, rfl, ha⟩ := hrel
          have Ha := Lib.hid ha
          clear ha
          by_cases hgo : j < s.size ∧ isDg (s.data.toList.getD j 0) = true
          · obtain ⟨hlt, hd⟩ := hgo
            have hlt' : (j : Int) < (s.size : Int) := by omega
            have hd2 : isDg s[j] = true := by
              have : s.data.toList.getD j 0 = s[j] := by rw [List.getD_eq_getElem?_getD, List.getElem?_eq_getElem (by simpa using hlt)]; rfl
              rw [← this]; exact hd
            have HD := Lib.hid (ref16_digit s[j])
            rw [hd2] at HD
            have ht := dgN_at s j hlt
            have ha := Ha.out
            rw [ht, hd2] at ha
            have Ht : Hid (j + 1 + dgN (s.data.toList.drop (j + 1)) = dgN s.data.toList) := Lib.hid (by simp only [cond_true] at ha; omega)
            clear ht hd ha hd2
            go_wp2_with (go_at_call 42; refine (HD.out _).mono ?_; rintro e w' ⟨rfl, rfl⟩)
            go_round
            case rel => exact ⟨j + 1, by omega, by go_num, Ht.out⟩
            case measure => simp [intOf]; omega
          · have hjk : j = k := by
              rw [Hk.out, ← Ha.out]
              rcases Nat.lt_or_ge j s.size with hlt | hge
              · have hd2 : isDg s[j] = false := by
                  have : s.data.toList.getD j 0 = s[j] := by rw [List.getD_eq_getElem?_getD, List.getElem?_eq_getElem (by simpa using hlt)]; rfl
                  rw [← this]
                  cases e : isDg (s.data.toList.getD j 0) with
                  | false => rfl
                  | true => exact absurd ⟨hlt, e⟩ hgo
                rw [dgN_at s j hlt, hd2]; rfl
              · rw [List.drop_eq_nil_of_le (by simp; omega)]; rfl
            subst hjk
            by_cases hlt : j < s.size
            · have hlt' : (j : Int) < (s.size : Int) := by omega
              have hd2 : isDg s[j] = false := by
                have : s.data.toList.getD j 0 = s[j] := by rw [List.getD_eq_getElem?_getD, List.getElem?_eq_getElem (by simpa using hlt)]; rfl
                rw [← this]
                cases e : isDg (s.data.toList.getD j 0) with
                | false => rfl
                | true => exact absurd ⟨hlt, e⟩ hgo
              have HD := Lib.hid (ref16_digit s[j])
              rw [hd2] at HD
              clear hgo hd2
              go_wp2_with (first | (go_at_call 42; refine (HD.out _).mono ?_; rintro e w' ⟨rfl, rfl⟩) | (go_at_call 30; rw [← HA.out]; refine (HWH.out _).mono ?_; rintro e w' ⟨rfl, rfl⟩) | (go_at_call 43; rw [← HB.out]; refine (HUN.out _).mono ?_; rintro e w' ⟨rfl, rfl⟩))
              all_goals
                go_ret2
                exact RetI.some' hx.out (by first | exact (Int.natCast_mul _ _).symm | (rw [Int.natCast_mul]; simp only [Int.one_mul])) (Gr.refl _)
            · have hge : ¬ (j : Int) < (s.size : Int) := by omega
              clear hgo
              go_wp2_with (first | (go_at_call 30; rw [← HA.out]; refine (HWH.out _).mono ?_; rintro e w' ⟨rfl, rfl⟩) | (go_at_call 43; rw [← HB.out]; refine (HUN.out _).mono ?_; rintro e w' ⟨rfl, rfl⟩))
              all_goals
                go_ret2
                exact RetI.some' hx.out (by first | exact (Int.natCast_mul _ _).symm | (rw [Int.natCast_mul]; simp only [Int.one_mul])) (Gr.refl _)
end Go.Proofs.YtfnpmdcbhjabmaaDoor
