/- The long division, bit by bit: plain arithmetic, in the walk's spelling. -/
import Derived.Test.YtoikpkgogncdhaaFxMdA
import Derived.Laws.BitsLemmas
namespace Go.Proofs.Ytoikpkgogncdhaa
open Go.RowKit

theorem step_mod (T d b : Nat) (hd : 0 < d) (hb : b < 2) :
    (2 * T + b) % d = (if d ≤ 2 * (T % d) + b then 2 * (T % d) + b - d else 2 * (T % d) + b) ∧
    (2 * T + b) / d = 2 * (T / d) + (if d ≤ 2 * (T % d) + b then 1 else 0) := by
  have h1 := Nat.mod_lt T hd
  have h2 := Nat.div_add_mod T d
  have e : 2 * T + b = (2 * (T % d) + b) + d * (2 * (T / d)) := by
    rw [← Nat.mul_assoc, Nat.mul_comm d 2, Nat.mul_assoc]; omega
  rw [e, Nat.add_mul_mod_self_left, Nat.add_mul_div_left _ _ hd]
  by_cases h : d ≤ 2 * (T % d) + b
  · rw [if_pos h, if_pos h, Nat.mod_eq_sub_mod h, Nat.mod_eq_of_lt (by omega), Nat.div_eq_sub_div hd h, Nat.div_eq_of_lt (by omega)]
    exact ⟨rfl, by omega⟩
  · rw [if_neg h, if_neg h, Nat.mod_eq_of_lt (by omega), Nat.div_eq_of_lt (by omega)]
    exact ⟨rfl, by omega⟩

/-- the state of the division of P by d where k bits are still to come. -/
structure Ld (P d k q r : Nat) (over : Bool) : Prop where
  hq : q = P / 2 ^ k / d % 18446744073709551616
  hr : r = P / 2 ^ k % d
  ho : over = decide (9223372036854775808 ≤ P / 2 ^ k / d)

theorem Ld.start {P d : Nat} (h : P < 2 ^ 128) : Ld P d 128 0 0 false := by
  have e : P / 2 ^ 128 = 0 := Nat.div_eq_of_lt h
  exact { hq := by rw [e]; simp, hr := by rw [e]; simp, ho := by rw [e]; simp }

theorem pow_step (P k : Nat) : P / 2 ^ k = 2 * (P / 2 ^ (k + 1)) + P / 2 ^ k % 2 := by
  rw [Nat.pow_succ, ← Nat.div_div_eq_div_mul]; omega

theorem Ld.bound {P d k q r : Nat} {over : Bool} (h : Ld P d k q r over) (hd : 0 < d) : r < d ∧ q < 18446744073709551616 := by
  constructor
  · rw [h.hr]; exact Nat.mod_lt _ hd
  · rw [h.hq]; exact Nat.mod_lt _ (by omega)

theorem Ld.over {P d k q r : Nat} {o : Bool} (h : Ld P d (k + 1) q r o) (hd : 0 < d) : (o || decide (4611686018427387904 ≤ q)) = decide (9223372036854775808 ≤ P / 2 ^ k / d) := by
  have hs := pow_step P k
  have hb : P / 2 ^ k % 2 < 2 := Nat.mod_lt _ (by omega)
  obtain ⟨_, s2⟩ := step_mod (P / 2 ^ (k + 1)) d (P / 2 ^ k % 2) hd hb
  rw [← hs] at s2
  have h1 := h.hq
  have h2 := h.ho
  have hc : (if d ≤ 2 * (P / 2 ^ (k + 1) % d) + P / 2 ^ k % 2 then 1 else 0 : Nat) ≤ 1 := by split <;> omega
  generalize (if d ≤ 2 * (P / 2 ^ (k + 1) % d) + P / 2 ^ k % 2 then 1 else 0 : Nat) = c at *
  generalize P / 2 ^ (k + 1) / d = Q at *
  generalize P / 2 ^ k / d = Q' at *
  rw [h2, Bool.eq_iff_iff]
  simp only [Bool.or_eq_true, decide_eq_true_eq]
  omega
/-- a bit more: the divisor goes in. -/
theorem Ld.yes {P d k q r : Nat} {o : Bool} (h : Ld P d (k + 1) q r o) (hd : 0 < d) (hx : d ≤ 2 * r + P / 2 ^ k % 2) :
    Ld P d k (q * 2 % 18446744073709551616 + 1) (2 * r + P / 2 ^ k % 2 - d) (o || decide (4611686018427387904 ≤ q)) := by
  have ho := h.over hd
  have hs := pow_step P k
  have hb : P / 2 ^ k % 2 < 2 := Nat.mod_lt _ (by omega)
  obtain ⟨s1, s2⟩ := step_mod (P / 2 ^ (k + 1)) d (P / 2 ^ k % 2) hd hb
  have h1 := h.hq
  have h2 := h.hr
  rw [← hs, ← h2, if_pos hx] at s1 s2
  refine { hq := ?_, hr := s1.symm, ho := ho }
  rw [s2, h1]
  generalize P / 2 ^ (k + 1) / d = Q at *
  omega
/-- a bit more: it does not. -/
theorem Ld.no {P d k q r : Nat} {o : Bool} (h : Ld P d (k + 1) q r o) (hd : 0 < d) (hx : ¬ d ≤ 2 * r + P / 2 ^ k % 2) :
    Ld P d k (q * 2 % 18446744073709551616) (2 * r + P / 2 ^ k % 2) (o || decide (4611686018427387904 ≤ q)) := by
  have ho := h.over hd
  have hs := pow_step P k
  have hb : P / 2 ^ k % 2 < 2 := Nat.mod_lt _ (by omega)
  obtain ⟨s1, s2⟩ := step_mod (P / 2 ^ (k + 1)) d (P / 2 ^ k % 2) hd hb
  have h1 := h.hq
  have h2 := h.hr
  rw [← hs, ← h2, if_neg hx] at s1 s2
  refine { hq := ?_, hr := s1.symm, ho := ho }
  rw [s2, h1]
  generalize P / 2 ^ (k + 1) / d = Q at *
  omega

/-- the bit of a double word. -/
theorem bit_hi {H L j : Nat} (hL : L < 18446744073709551616) (hj : 64 ≤ j) : (H * 18446744073709551616 + L) / 2 ^ j % 2 = H / 2 ^ (j - 64) % 2 := by
  have e : 2 ^ j = 18446744073709551616 * 2 ^ (j - 64) := by
    rw [show (18446744073709551616 : Nat) = 2 ^ 64 from by decide, ← Nat.pow_add, show 64 + (j - 64) = j from by omega]
  rw [e, ← Nat.div_div_eq_div_mul, show (H * 18446744073709551616 + L) / 18446744073709551616 = H from by omega]
theorem bit_lo {H L j : Nat} (hj : j < 64) : (H * 18446744073709551616 + L) / 2 ^ j % 2 = L / 2 ^ j % 2 := by
  have e : H * 18446744073709551616 = 2 ^ j * (H * 2 ^ (63 - j) * 2) := by
    rw [show (18446744073709551616 : Nat) = 2 ^ j * (2 ^ (63 - j) * 2) from by rw [← Nat.pow_succ, ← Nat.pow_add, show j + (63 - j + 1) = 64 from by omega]]
    rw [Nat.mul_left_comm, Nat.mul_assoc]
  rw [e, Nat.mul_add_div (Nat.pow_pos (by omega))]
  omega

theorem and_one (X : Nat) (h : X < 18446744073709551616) : bits .and .u64 (X : Int) 1 = ((X % 2 : Nat) : Int) := by
  have h1 := bits_and_u64_nat X 1 h (by omega)
  have e : X &&& 1 = X % 2 := Nat.and_one_is_mod X
  rw [e] at h1
  exact h1
theorem or_bit {x b : Nat} (h : 2 * x < 18446744073709551616) (hb : b < 2) : bits .or .u64 ((2 * x : Nat) : Int) (b : Int) = ((2 * x + b : Nat) : Int) := by
  rw [bits_or_u64_nat _ _ h (by omega)]
  have := (Nat.two_pow_add_eq_or_of_lt (i := 1) (b := b) (by omega) x).symm
  simp only [Nat.pow_one] at this
  rw [this]
end Go.Proofs.Ytoikpkgogncdhaa
