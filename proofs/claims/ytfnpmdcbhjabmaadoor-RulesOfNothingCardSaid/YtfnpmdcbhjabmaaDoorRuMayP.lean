/- Whether a header may be: whead.Check, May of the reference. -/
import Derived.Test.YtfnpmdcbhjabmaaDoorRuSize
import Derived.Deep.Cut
import Derived.Deep.CutRange
namespace Go.Proofs.YtfnpmdcbhjabmaaDoor
set_option linter.unusedVariables false
set_option linter.unusedSimpArgs false
open Go.RowKit

/-- what is asked of the archive at a place. -/
def stepOk (l : List (Nat × Nat)) (k : Nat) : Bool := oneOk (l.getD k (0, 0)) && (k == 0 || fitsS (l.getD (k - 1) (0, 0)) (l.getD k (0, 0)))
theorem rowOk_iff : ∀ (a : Nat × Nat) (l : List (Nat × Nat)), rowOk a l = true ↔ ∀ k, k < l.length → stepOk (a :: l) (k + 1) = true
  | a, [] => by simp [rowOk]
  | a, b :: r => by
    rw [rowOk, Bool.and_eq_true, Bool.and_eq_true, rowOk_iff b r]
    constructor
    · rintro ⟨⟨h1, h2⟩, h3⟩ k hk
      match k with
      | 0 => simp [stepOk, h1, h2]
      | k + 1 =>
        have := h3 k (by simpa using hk)
        simpa [stepOk] using this
    · intro h
      have h0 := h 0 (by simp)
      refine ⟨by simpa [stepOk] using h0, fun k hk => ?_⟩
      have := h (k + 1) (by simpa using hk)
      simpa [stepOk] using this
def stepsS (l : List (Nat × Nat)) : Bool := match l with | [] => false | a :: r => oneOk a && rowOk a r
theorem steps_iff (l : List (Nat × Nat)) : stepsS l = true ↔ l ≠ [] ∧ ∀ k, k < l.length → stepOk l k = true := by
  match l with
  | [] => simp [stepsS]
  | a :: r =>
    rw [stepsS, Bool.and_eq_true, rowOk_iff]
    constructor
    · rintro ⟨h1, h2⟩
      refine ⟨by simp, fun k hk => ?_⟩
      match k with
      | 0 => simpa [stepOk] using h1
      | k + 1 => exact h2 k (by simpa using hk)
    · rintro ⟨-, h⟩
      refine ⟨?_, fun k hk => h (k + 1) (by simpa using hk)⟩
      have := h 0 (by simp)
      simpa [stepOk] using this
theorem mayS_eq (l : List (Nat × Nat)) : mayS l = (Nat.ble l.length 8 && stepsS l && Nat.ble (sizeS l) 1048576 && Nat.ble ((lastS l).1 * (lastS l).2) maxTime) := by
  unfold mayS stepsS
  rfl
theorem one_no {x1 x2 : Nat} (h : x1 < 1 ∨ 16777216 < x1 ∨ x2 < 1 ∨ 16777216 < x2) : oneOk (x1, x2) = false := by
  cases e : oneOk (x1, x2)
  · rfl
  · have := oneOk_iff.1 e
    simp only at this
    omega
theorem mayS_step {l : List (Nat × Nat)} {k : Nat} (hk : k < l.length) (h : stepOk l k = false) : mayS l = false := by
  cases e : mayS l
  · rfl
  · rw [mayS_eq] at e
    simp only [Bool.and_eq_true] at e
    have := ((steps_iff l).1 e.1.1.2).2 k hk
    rw [h] at this
    cases this
theorem mayS_size {l : List (Nat × Nat)} (h : 1048576 < sizeS l) : mayS l = false := by
  cases e : mayS l
  · rfl
  · rw [mayS_eq] at e
    simp only [Bool.and_eq_true, Nat.ble_eq] at e
    omega
theorem mayS_len {l : List (Nat × Nat)} (h : l.length = 0 ∨ 8 < l.length) : mayS l = false := by
  cases e : mayS l
  · rfl
  · rw [mayS_eq] at e
    simp only [Bool.and_eq_true, Nat.ble_eq] at e
    have := ((steps_iff l).1 e.1.1.2).1
    rcases h with h | h
    · exact absurd (List.length_eq_zero_iff.1 h) this
    · omega
theorem mayS_rest {l : List (Nat × Nat)} (h1 : 1 ≤ l.length) (h8 : l.length ≤ 8) (h : ∀ k, k < l.length → stepOk l k = true) (hs : sizeS l ≤ 1048576) : mayS l = Nat.ble ((lastS l).1 * (lastS l).2) maxTime := by
  have : stepsS l = true := (steps_iff l).2 ⟨fun e => by rw [e] at h1; simp at h1, h⟩
  have e1 : Nat.ble l.length 8 = true := by rw [Nat.ble_eq]; exact h8
  have e2 : Nat.ble (sizeS l) 1048576 = true := by rw [Nat.ble_eq]; exact hs
  rw [mayS_eq, this, e1, e2]
  rfl
theorem lastS_at {l : List (Nat × Nat)} (h : 1 ≤ l.length) : lastS l = l[l.length - 1]'(by omega) := by
  unfold lastS
  rw [List.getLastD_eq_getLast?, List.getLast?_eq_getElem?, List.getElem?_eq_getElem (by omega)]
  rfl
theorem stepOk_at {l : List (Nat × Nat)} {k : Nat} (h : k < l.length) : stepOk l k = (oneOk l[k] && (k == 0 || fitsS (l[k - 1]'(by omega)) l[k])) := by
  unfold stepOk
  rw [List.getD_eq_getElem?_getD, List.getD_eq_getElem?_getD, List.getElem?_eq_getElem h, List.getElem?_eq_getElem (by omega)]
  rfl
end Go.Proofs.YtfnpmdcbhjabmaaDoor
