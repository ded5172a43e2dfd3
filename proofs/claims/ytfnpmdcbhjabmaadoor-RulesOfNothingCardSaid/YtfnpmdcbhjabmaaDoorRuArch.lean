/- An archive of a rule: rules.unsigned, plain of the reference, rules.archive. -/
import Derived.Test.YtfnpmdcbhjabmaaDoorRuIntv
namespace Go.Proofs.YtfnpmdcbhjabmaaDoor
set_option linter.unusedVariables false
set_option linter.unusedSimpArgs false
open Go.RowKit

theorem Gr.drewN' {a w : World} (h : Gr a w) (n : Nat) : Gr a (w.drewN n) := ⟨h.os, h.tape, h.output, h.size, h.block⟩
theorem whole_plain {l : List UInt8} (h : signB l = false) : wholeS l = (wholeN l).map (fun n : Nat => (n : Int)) := by
  have hm : minusS l = false := by
    match l with
    | [] => rfl
    | c :: r =>
      simp only [signB, Bool.or_eq_false_iff] at h
      exact h.1
  unfold wholeS
  rw [hm]
  rfl
theorem sign_yes {s : ByteArray} (h : signB s.data.toList = true) : s = ⟨#[]⟩ ∨ (∃ h0 : (0 : Int) < (s.size : Int), s.toList.isEmpty = false ∧ s.data.toList.isEmpty = false ∧ (s.toList == []) = false ∧ (((s[0]'(by omega)).toNat : Int) == 45) = true) ∨ (∃ h0 : (0 : Int) < (s.size : Int), s.toList.isEmpty = false ∧ s.data.toList.isEmpty = false ∧ (s.toList == []) = false ∧ (((s[0]'(by omega)).toNat : Int) == 45) = false ∧ (((s[0]'(by omega)).toNat : Int) == 43) = true) := by
  rcases Nat.eq_zero_or_pos s.size with e | h0
  · left
    apply ByteArray.ext; apply Array.eq_empty_of_size_eq_zero; exact e
  · right
    have hl : 0 < s.data.toList.length := by simpa using h0
    have hc : s.data.toList = s[0] :: s.data.toList.drop 1 := by
      have := List.drop_eq_getElem_cons hl
      rwa [List.drop_zero] at this
    have hb : (s[0] == 45 || s[0] == 43) = true := by rw [hc] at h; exact h
    have a1 : s.toList.isEmpty = false := by rw [toList_data_ru]; rw [List.isEmpty_eq_false_iff]; exact ne_nil (by omega)
    have a2 : s.data.toList.isEmpty = false := by rw [List.isEmpty_eq_false_iff]; exact ne_nil (by omega)
    have a3 : (s.toList == []) = false := by rw [toList_data_ru, beq_eq_false_iff_ne]; exact ne_nil (by omega)
    rw [Bool.or_eq_true] at hb
    cases h5 : (s[0] == 45)
    · right
      rw [h5] at hb
      have h3 : s[0] = 43 := by simpa using hb
      refine ⟨by omega, a1, a2, a3, ?_, ?_⟩
      · rw [h3]; rfl
      · rw [h3]; rfl
    · left
      have h3 : s[0] = 45 := by simpa using h5
      refine ⟨by omega, a1, a2, a3, ?_⟩
      rw [h3]; rfl
/-- a number of seconds or of points, or none. -/
def RetU : Option (Nat × Bool) → World → Ending → World → Prop
  | some (n, b), w, e, w' => e = .returned (.tuple #[.int .i64 (n : Nat), .bool b, .bool true]) ∧ Gr w w'
  | none, w, e, w' => ∃ b, e = .returned (.tuple #[.int .i64 0, .bool b, .bool false]) ∧ Gr w w'
theorem RetU.weak {x : Option (Nat × Bool)} {w w' : World} {e : Ending} (h : RetU x w e w') : ∃ (n : Nat) (b o : Bool), e = .returned (.tuple #[.int .i64 (n : Nat), .bool b, .bool o]) ∧ Gr w w' := by
  match x, h with
  | some (n, b), h => exact ⟨n, b, true, h⟩
  | none, ⟨b, h, g⟩ => exact ⟨0, b, false, h, g⟩
set_option maxRecDepth 100000 in
set_option maxHeartbeats 6400000 in
theorem rules_unsigned (s : ByteArray) (hs : (s.size : Int) ≤ 4096) (w : World) : Calls Tryd.prog 27 #[.string s] w (RetU (unsS s.data.toList) w) := by
  cases hsg : signB s.data.toList
  case true =>
    have hu : unsS s.data.toList = none := by unfold unsS; rw [hsg]; rfl
    rw [hu]
    clear hu
    rcases sign_yes hsg with rfl | ⟨h0, n1, n2, n3, h45⟩ | ⟨h0, n1, n2, n3, h45, h43⟩
    · clear hsg
      go_enter Tryd.func27, Tryd.ntmps27
      go_wp2
      go_ret3
      exact ⟨false, rfl, Gr.refl _⟩
    · clear hsg
      go_enter Tryd.func27, Tryd.ntmps27
      go_wp2
      go_ret3
      exact ⟨false, rfl, Gr.refl _⟩
    · clear hsg
      go_enter Tryd.func27, Tryd.ntmps27
      go_wp2
      go_ret3
      exact ⟨false, rfl, Gr.refl _⟩
  case false =>
    obtain ⟨h0, h45, h43, n1, n2, n3⟩ := sign_no hsg
    have hw := whole_plain hsg
    have HW := Lib.hid (dec_Whole s hs)
    have HI := Lib.hid (span_Interval s hs hsg)
    have hU : unsS s.data.toList = match wholeN s.data.toList with | some n => some (n, false) | none => (intvS s.data.toList).map fun n => (n, true) := by unfold unsS; rw [hsg]; rfl
    cases hn : wholeN s.data.toList with
    | some n =>
      rw [hn] at hw hU
      rw [hw] at HW
      rw [hU]
      clear hw hU hn hsg HI
      go_enter Tryd.func27, Tryd.ntmps27
      go_wp2_with (first | (go_at_call 38; refine (HW.out _).mono ?_; rintro e w1 ⟨rfl, rfl⟩) | (go_at_call 39; refine (HI.out _).mono ?_; rintro e w2 ⟨rfl, g2⟩))
      go_ret3
      exact ⟨rfl, Gr.refl _⟩
    | none =>
      rw [hn] at hw hU
      rw [hw] at HW
      cases hi : intvS s.data.toList with
      | some n =>
        rw [hi] at HI hU
        rw [hU]
        clear hw hU hn hsg hi
        go_enter Tryd.func27, Tryd.ntmps27
        go_wp2_with (first | (go_at_call 38; refine (HW.out _).mono ?_; rintro e w1 ⟨rfl, rfl⟩) | (go_at_call 39; refine (HI.out _).mono ?_; rintro e w2 ⟨rfl, g2⟩))
        go_ret3
        exact ⟨rfl, g2⟩
      | none =>
        rw [hi] at HI hU
        rw [hU]
        clear hw hU hn hsg hi
        go_enter Tryd.func27, Tryd.ntmps27
        go_wp2_with (first | (go_at_call 38; refine (HW.out _).mono ?_; rintro e w1 ⟨rfl, rfl⟩) | (go_at_call 39; refine (HI.out _).mono ?_; rintro e w2 ⟨rfl, g2⟩))
        go_ret3
        exact ⟨true, rfl, g2⟩
set_option maxRecDepth 100000 in
set_option maxHeartbeats 6400000 in
theorem ref_plain (s : ByteArray) (hs : (s.size : Int) ≤ 4096) (w : World) : Calls Tryd.prog 17 #[.string s] w (RetU (unsS s.data.toList) w) := by
  cases hsg : signB s.data.toList
  case true =>
    have hu : unsS s.data.toList = none := by unfold unsS; rw [hsg]; rfl
    rw [hu]
    clear hu
    rcases sign_yes hsg with rfl | ⟨h0, n1, n2, n3, h45⟩ | ⟨h0, n1, n2, n3, h45, h43⟩
    · clear hsg
      go_enter Tryd.func17, Tryd.ntmps17
      go_wp2
      go_ret3
      exact ⟨false, rfl, Gr.refl _⟩
    · clear hsg
      go_enter Tryd.func17, Tryd.ntmps17
      go_wp2
      go_ret3
      exact ⟨false, rfl, Gr.refl _⟩
    · clear hsg
      go_enter Tryd.func17, Tryd.ntmps17
      go_wp2
      go_ret3
      exact ⟨false, rfl, Gr.refl _⟩
  case false =>
    obtain ⟨h0, h45, h43, n1, n2, n3⟩ := sign_no hsg
    have hw := whole_plain hsg
    have HW := Lib.hid (ref2_Whole s hs)
    have HI := Lib.hid (ref_Interval s hs hsg)
    have hU : unsS s.data.toList = match wholeN s.data.toList with | some n => some (n, false) | none => (intvS s.data.toList).map fun n => (n, true) := by unfold unsS; rw [hsg]; rfl
    cases hn : wholeN s.data.toList with
    | some n =>
      rw [hn] at hw hU
      rw [hw] at HW
      rw [hU]
      clear hw hU hn hsg HI
      go_enter Tryd.func17, Tryd.ntmps17
      go_wp2_with (first | (go_at_call 30; refine (HW.out _).mono ?_; rintro e w1 ⟨rfl, rfl⟩) | (go_at_call 31; refine (HI.out _).mono ?_; rintro e w2 ⟨rfl, g2⟩))
      go_ret3
      exact ⟨rfl, Gr.refl _⟩
    | none =>
      rw [hn] at hw hU
      rw [hw] at HW
      cases hi : intvS s.data.toList with
      | some n =>
        rw [hi] at HI hU
        rw [hU]
        clear hw hU hn hsg hi
        go_enter Tryd.func17, Tryd.ntmps17
        go_wp2_with (first | (go_at_call 30; refine (HW.out _).mono ?_; rintro e w1 ⟨rfl, rfl⟩) | (go_at_call 31; refine (HI.out _).mono ?_; rintro e w2 ⟨rfl, g2⟩))
        go_ret3
        exact ⟨rfl, g2⟩
      | none =>
        rw [hi] at HI hU
        rw [hU]
        clear hw hU hn hsg hi
        go_enter Tryd.func17, Tryd.ntmps17
        go_wp2_with (first | (go_at_call 30; refine (HW.out _).mono ?_; rintro e w1 ⟨rfl, rfl⟩) | (go_at_call 31; refine (HI.out _).mono ?_; rintro e w2 ⟨rfl, g2⟩))
        go_ret3
        exact ⟨true, rfl, g2⟩

/-- the library's own notion: a cut at a byte. -/
theorem index_one (c : UInt8) : ∀ l : List UInt8, match cutS c l with
    | some (a, b) => Lib.index l [c] = a.length ∧ l = a ++ c :: b
    | none => Lib.index l [c] = -1
  | [] => rfl
  | x :: r => by
    have ih := index_one c r
    unfold cutS Lib.index
    cases hx : (x == c)
    · have hx' : (c == x) = false := by rw [beq_eq_false_iff_ne] at hx ⊢; exact fun e => hx e.symm
      have hp : ([c] : List UInt8).isPrefixOf (x :: r) = false := by simp [List.isPrefixOf, hx']
      rw [hp]
      cases hr : cutS c r with
      | none =>
        rw [hr] at ih
        simp only at ih
        simp [ih]
      | some p =>
        rw [hr] at ih
        simp only at ih
        obtain ⟨i1, i2⟩ := ih
        simp only [cond_false, Option.map_some, List.length_cons, List.cons_append]
        rw [i1]
        refine ⟨?_, by rw [← i2]⟩
        simp only [Bool.false_eq_true, if_false]
        have : ((p.1.length : Int) == -1) = false := by rw [beq_eq_false_iff_ne]; omega
        rw [this]
        simp
    · have hx' : x = c := by simpa using hx
      subst hx'
      simp [List.isPrefixOf]
theorem lib_cut (c : UInt8) (l : List UInt8) : Lib.cut l [c] = match cutS c l with | some (a, b) => (a, b, true) | none => (l, [], false) := by
  have h := index_one c l
  unfold Lib.cut
  cases hc : cutS c l with
  | none =>
    rw [hc] at h
    simp only at h
    rw [h]
    simp
  | some p =>
    rw [hc] at h
    simp only at h
    obtain ⟨h1, h2⟩ := h
    rw [h1, if_pos (by omega)]
    simp only [Int.toNat_natCast, List.length_singleton]
    conv => lhs; rw [h2]
    rw [List.take_left]
    congr 2
    rw [show p.1 ++ c :: p.2 = (p.1 ++ [c]) ++ p.2 by simp, show p.1.length + 1 = (p.1 ++ [c]).length by simp, List.drop_left]
theorem cutS_len {c : UInt8} {l a b : List UInt8} (h : cutS c l = some (a, b)) : a.length + b.length + 1 = l.length := by
  have := index_one c l
  rw [h] at this
  simp only at this
  have := congrArg List.length this.2
  simp at this
  omega
/-- what the library's table of sizes holds is some number. -/
def Ml (w : World) : Prop := ∃ m : Int, w.cell? ⟨0, 0, none⟩ = some (.int .i64 m)
theorem Ml.gr {w w' : World} (h : Ml w) (g : Gr w w') : Ml w' := by
  obtain ⟨m, h⟩ := h
  exact ⟨m, (Below.cell g (World.block_lt_of_cell? _ _ h)).trans h⟩
theorem cut_any (s A B : ByteArray) (ok : Bool) (hs : (s.size : Int) ≤ 4096) (h : Lib.cut s.data.toList [58] = (A.data.toList, B.data.toList, ok)) (w : World) (hm : Ml w) : Calls Tryd.prog 26 #[.string s, .string ⟨#[58]⟩] w fun e w' => e = .returned (.tuple #[.string A, .string B, .bool ok]) ∧ Gr w w' := by
  obtain ⟨m, hm⟩ := hm
  refine (Tryd.strings_Cut s ⟨#[58]⟩ m w (by omega) hm).mono ?_
  rintro e w' ⟨rfl, n, rfl⟩
  have e2 : (⟨#[58]⟩ : ByteArray).data.toList = [58] := rfl
  rw [e2, h]
  exact ⟨rfl, Gr.drewN' (Gr.refl w) n⟩
/-- an archive, or none. -/
def RetA : Option (Nat × Nat) → World → Ending → World → Prop
  | some (a, n), w, e, w' => e = .returned (.tuple #[.agg #[.int .i64 (a : Nat), .int .i64 (n : Nat)], .bool true]) ∧ Gr w w'
  | none, w, e, w' => e = .returned (.tuple #[.agg #[.int .i64 0, .int .i64 0], .bool false]) ∧ Gr w w'
theorem arch_of {l : List UInt8} : archS l = match cutS 58 l with
    | none => none
    | some (a, b) => match unsS a, unsS b with
      | some (step, _), some (n, long) => bif step == 0 then none else some (step, bif long then n / step else n)
      | _, _ => none := rfl
theorem quo_nat (a b : Nat) (hb : b ≠ 0) : Int.tdiv (a : Int) (b : Int) = ((a / b : Nat) : Int) := by
  rw [Int.tdiv_eq_ediv_of_nonneg (by omega)]; rfl
end Go.Proofs.YtfnpmdcbhjabmaaDoor
