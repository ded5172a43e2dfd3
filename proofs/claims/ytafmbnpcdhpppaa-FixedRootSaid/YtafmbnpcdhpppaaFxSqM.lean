/- The root, bit by bit: plain arithmetic. -/
import Derived.Test.YtafmbnpcdhpppaaFxMul
import Derived.Test.YtafmbnpcdhpppaaFxMdM
namespace Go.Proofs.Ytafmbnpcdhpppaa
open Go.RowKit

/-- the greatest number below 2^43 whose square is not above N, found bit by bit from a place down. -/
def rtAux (N : Nat) : Nat → Nat → Nat
  | 0, n => n
  | k + 1, n => rtAux N k (if (n + 2 ^ k) * (n + 2 ^ k) ≤ N then n + 2 ^ k else n)
def rtN (N : Nat) : Nat := rtAux N 42 0
def sqrtV (a : Vl) : Vl := bif knB a && decide (0 ≤ a.n) then ofV (rtN (a.n.toNat * 1000000)) else ⟨false, 0⟩

/-- what holds where k bits are still to come. -/
structure Rt (N k n : Nat) : Prop where
  hd : n % 2 ^ k = 0
  hlt : n < 2 ^ 42
  hle : n * n ≤ N
  hgt : N < (n + 2 ^ k) * (n + 2 ^ k)
  heq : rtAux N k n = rtN N
theorem Rt.start {N : Nat} (h : N < 2 ^ 84) : Rt N 42 0 :=
  { hd := by simp, hlt := by decide, hle := by simp, hgt := by rw [Nat.zero_add, ← Nat.pow_add]; exact h, heq := rfl }
theorem rtAux_succ (N k n : Nat) : rtAux N (k + 1) n = rtAux N k (if (n + 2 ^ k) * (n + 2 ^ k) ≤ N then n + 2 ^ k else n) := rfl
theorem Rt.start43 {N : Nat} (h : N < 2 ^ 84) : Rt N 43 0 :=
  { hd := by simp, hlt := by decide, hle := by simp
    hgt := by
      rw [Nat.zero_add, ← Nat.pow_add]
      exact Nat.lt_of_lt_of_le h (Nat.pow_le_pow_right (by decide) (by decide))
    heq := by
      have hn : ¬ (0 + 2 ^ 42) * (0 + 2 ^ 42) ≤ N := by
        rw [Nat.zero_add, ← Nat.pow_add]
        exact Nat.not_le.2 h
      have e := rtAux_succ N 42 0
      rw [if_neg hn] at e
      exact e }
theorem Rt.fit {N k n : Nat} (h : Rt N (k + 1) n) (hk : k < 42) : n + 2 ^ k < 2 ^ 42 ∧ (n + 2 ^ k) % 2 ^ k = 0 ∧ n % 2 ^ (k + 1) = 0 := by
  have h1 := h.hd
  have h2 := h.hlt
  have e : (2 : Nat) ^ 42 = 2 ^ (k + 1) * 2 ^ (41 - k) := by rw [← Nat.pow_add]; congr 1; omega
  have p : 0 < 2 ^ k := Nat.pow_pos (by omega)
  have hq : n / 2 ^ (k + 1) < 2 ^ (41 - k) := by rw [Nat.div_lt_iff_lt_mul (Nat.pow_pos (by omega)), Nat.mul_comm, ← e]; exact h2
  have hn := Nat.div_add_mod n (2 ^ (k + 1))
  rw [h1, Nat.add_zero] at hn
  refine ⟨?_, ?_, h1⟩
  · have h3 : 2 ^ (k + 1) * (n / 2 ^ (k + 1) + 1) ≤ 2 ^ (k + 1) * 2 ^ (41 - k) := Nat.mul_le_mul_left _ hq
    rw [Nat.mul_add, hn, ← e, Nat.mul_one, Nat.pow_succ] at h3
    omega
  · rw [Nat.add_mod_right, ← hn, Nat.pow_succ, Nat.mul_assoc, Nat.mul_mod_right]
theorem Rt.yes {N k n : Nat} (h : Rt N (k + 1) n) (hk : k < 42) (hx : (n + 2 ^ k) * (n + 2 ^ k) ≤ N) : Rt N k (n + 2 ^ k) := by
  obtain ⟨f1, f2, _⟩ := h.fit hk
  refine { hd := f2, hlt := f1, hle := hx, hgt := ?_, heq := ?_ }
  · have := h.hgt
    rw [Nat.pow_succ] at this
    rwa [show n + 2 ^ k + 2 ^ k = n + 2 ^ k * 2 from by omega]
  · rw [← h.heq]; show _ = rtAux N k (if _ then _ else _); rw [if_pos hx]
theorem Rt.no {N k n : Nat} (h : Rt N (k + 1) n) (hx : ¬ (n + 2 ^ k) * (n + 2 ^ k) ≤ N) : Rt N k n := by
  refine { hd := ?_, hlt := h.hlt, hle := h.hle, hgt := by omega, heq := ?_ }
  · have h1 := Nat.div_add_mod n (2 ^ (k + 1))
    rw [h.hd, Nat.add_zero, Nat.pow_succ, Nat.mul_assoc] at h1
    rw [← h1, Nat.mul_mod_right]
  · rw [← h.heq]; show _ = rtAux N k (if _ then _ else _); rw [if_neg hx]
theorem Rt.end_ {N n : Nat} (h : Rt N 0 n) : n = rtN N := h.heq
theorem or_pow {n k : Nat} (hd : n % 2 ^ (k + 1) = 0) (hn : n + 2 ^ k < 18446744073709551616) : bits .or .u64 (n : Int) ((2 ^ k : Nat) : Int) = ((n + 2 ^ k : Nat) : Int) := by
  rw [bits_or_u64_nat _ _ (by omega) (by omega)]
  have h1 := Nat.div_add_mod n (2 ^ (k + 1))
  rw [hd, Nat.add_zero] at h1
  have h2 := (Nat.two_pow_add_eq_or_of_lt (i := k + 1) (b := 2 ^ k) (by rw [Nat.pow_succ]; have : 0 < 2 ^ k := Nat.pow_pos (by omega); omega) (n / 2 ^ (k + 1))).symm
  rw [h1] at h2
  rw [h2]
/-- the comparison of two double words. -/
theorem dbl_le {X Y h l : Nat} (h1 : Y / 18446744073709551616 = h) (h2 : Y % 18446744073709551616 = l) :
    X ≤ Y ↔ (X / 18446744073709551616 < h ∨ (X / 18446744073709551616 = h ∧ X % 18446744073709551616 ≤ l)) := by omega
end Go.Proofs.Ytafmbnpcdhpppaa
