/- Parts of a text, plain. -/
import Derived.Test.YtfnpmdcbhjabmaaDoorRuArch
namespace Go.Proofs.YtfnpmdcbhjabmaaDoor
set_option linter.unusedVariables false
set_option linter.unusedSimpArgs false
open Go.RowKit

theorem partS_no (c : UInt8) : ∀ l : List UInt8, (∀ x ∈ l, x ≠ c) → partS c l = [l]
  | [], _ => rfl
  | x :: r, h => by
    have hx : (x == c) = false := beq_eq_false_iff_ne.2 (h x (List.mem_cons_self ..))
    unfold partS
    rw [hx, partS_no c r (fun y hy => h y (List.mem_cons_of_mem _ hy))]
    rfl
theorem partS_hit (c : UInt8) (r : List UInt8) : ∀ p : List UInt8, (∀ x ∈ p, x ≠ c) → partS c (p ++ c :: r) = p :: partS c r
  | [], _ => by
    simp only [List.nil_append]
    conv => lhs; unfold partS
    simp
  | x :: p, h => by
    have hx : (x == c) = false := beq_eq_false_iff_ne.2 (h x (List.mem_cons_self ..))
    simp only [List.cons_append]
    conv => lhs; unfold partS
    rw [hx, partS_hit c r p (fun y hy => h y (List.mem_cons_of_mem _ hy))]
    rfl
theorem partS_ne (c : UInt8) : ∀ l : List UInt8, 0 < (partS c l).length
  | [] => Nat.zero_lt_one
  | x :: r => by
    unfold partS
    cases (x == c)
    · simp only [cond_false]
      cases partS c r <;> simp
    · simp
theorem partS_len (c : UInt8) : ∀ l : List UInt8, (partS c l).length ≤ l.length + 1
  | [] => Nat.le_refl _
  | x :: r => by
    have ih := partS_len c r
    unfold partS
    cases (x == c)
    · simp only [cond_false]
      cases h : partS c r with
      | nil => simp
      | cons p m => rw [h] at ih; simp at ih ⊢; omega
    · simp; omega
theorem partS_mem (c : UInt8) : ∀ (l : List UInt8), ∀ p ∈ partS c l, p.length ≤ l.length ∧ ∀ x ∈ p, x ≠ c
  | [], p, h => by simp only [partS, List.mem_singleton] at h; subst h; exact ⟨Nat.le_refl _, fun x hx => by cases hx⟩
  | x :: r, p, h => by
    have ih := partS_mem c r
    unfold partS at h
    cases hx : (x == c)
    · rw [hx] at h
      simp only [cond_false] at h
      have hxc : x ≠ c := beq_eq_false_iff_ne.1 hx
      cases hp : partS c r with
      | nil =>
        rw [hp] at h
        simp only [List.mem_singleton] at h
        subst h
        exact ⟨by simp, fun y hy => by rw [List.mem_singleton] at hy; subst hy; exact hxc⟩
      | cons q m =>
        rw [hp] at h ih
        rcases List.mem_cons.1 h with rfl | h
        · have := ih q (List.mem_cons_self ..)
          refine ⟨by simpa using this.1, fun y hy => ?_⟩
          rcases List.mem_cons.1 hy with rfl | hy
          · exact hxc
          · exact this.2 y hy
        · have := ih p (List.mem_cons_of_mem _ h)
          exact ⟨by simp only [List.length_cons]; omega, this.2⟩
    · rw [hx] at h
      simp only [cond_true] at h
      rcases List.mem_cons.1 h with rfl | h
      · exact ⟨by simp, fun y hy => by cases hy⟩
      · have := ih p h
        exact ⟨by simp only [List.length_cons]; omega, this.2⟩
theorem cutS_none {c : UInt8} : ∀ {l : List UInt8}, cutS c l = none → ∀ x ∈ l, x ≠ c
  | [], _, x, hx => by cases hx
  | y :: r, h, x, hx => by
    unfold cutS at h
    cases hy : (y == c)
    · rw [hy] at h
      simp only [cond_false, Option.map_eq_none_iff] at h
      rcases List.mem_cons.1 hx with rfl | hx
      · exact beq_eq_false_iff_ne.1 hy
      · exact cutS_none h x hx
    · rw [hy] at h; cases h
theorem cutS_some {c : UInt8} : ∀ {l a b : List UInt8}, cutS c l = some (a, b) → l = a ++ c :: b ∧ ∀ x ∈ a, x ≠ c
  | [], a, b, h => by cases h
  | y :: r, a, b, h => by
    unfold cutS at h
    cases hy : (y == c)
    · rw [hy] at h
      simp only [cond_false, Option.map_eq_some_iff] at h
      obtain ⟨⟨a', b'⟩, h1, h2⟩ := h
      obtain ⟨h3, h4⟩ := cutS_some h1
      simp only [Prod.mk.injEq] at h2
      obtain ⟨rfl, rfl⟩ := h2
      refine ⟨by rw [h3]; rfl, fun x hx => ?_⟩
      rcases List.mem_cons.1 hx with rfl | hx
      · exact beq_eq_false_iff_ne.1 hy
      · exact h4 x hx
    · rw [hy] at h
      simp only [cond_true, Option.some.injEq, Prod.mk.injEq] at h
      obtain ⟨rfl, rfl⟩ := h
      have : y = c := by simpa using hy
      subst this
      exact ⟨rfl, fun x hx => by cases hx⟩
/-- cut and parts: two parts where it is cut and no more. -/
theorem partS_none {c : UInt8} {l : List UInt8} (h : cutS c l = none) : partS c l = [l] := partS_no c l (cutS_none h)
theorem partS_some {c : UInt8} {l a b : List UInt8} (h : cutS c l = some (a, b)) : partS c l = a :: partS c b := by
  obtain ⟨h1, h2⟩ := cutS_some h
  rw [h1]
  exact partS_hit c b a h2
end Go.Proofs.YtfnpmdcbhjabmaaDoor
