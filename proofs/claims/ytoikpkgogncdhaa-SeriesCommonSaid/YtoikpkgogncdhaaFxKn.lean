/- Knuth's long division with two digits of 32 bits: plain arithmetic. -/
namespace Go.Proofs.Ytoikpkgogncdhaa.Kn
/-- one digit of Knuth's division, base 2^32. -/
theorem T_lt {Y u un : Nat} (hY : 0 < Y) (hu : u < Y) (hun : un < 4294967296) : (u * 4294967296 + un) / Y < 4294967296 := by
  rw [Nat.div_lt_iff_lt_mul hY]
  have : (u + 1) * 4294967296 ≤ Y * 4294967296 := Nat.mul_le_mul_right _ hu
  omega
theorem mulY {Y a b q : Nat} (h : Y = a * 4294967296 + b) : q * Y = q * a * 4294967296 + q * b := by
  rw [h, Nat.mul_add, Nat.mul_assoc]
theorem init_le {Y a b u un : Nat} (h : Y = a * 4294967296 + b) (ha : 0 < a) (hun : un < 4294967296) : (u * 4294967296 + un) / Y ≤ u / a := by
  have hY : 0 < Y := by omega
  rw [Nat.le_div_iff_mul_le ha]
  have h1 := Nat.div_mul_le_self (u * 4294967296 + un) Y
  rw [mulY h] at h1
  omega
theorem dec {Y a b u un q r : Nat} (h : Y = a * 4294967296 + b) (hu : u < Y) (hun : un < 4294967296) (hq : u = q * a + r)
    (hT : (u * 4294967296 + un) / Y ≤ q) (ht : 4294967296 ≤ q ∨ 4294967296 * r + un < q * b) :
    1 ≤ q ∧ (u * 4294967296 + un) / Y ≤ q - 1 ∧ u = (q - 1) * a + (r + a) := by
  have hY : 0 < Y := by omega
  have hlt : (u * 4294967296 + un) / Y < q := by
    rcases ht with ht | ht
    · exact Nat.lt_of_lt_of_le (T_lt hY hu hun) ht
    · rw [Nat.div_lt_iff_lt_mul hY, mulY h]; omega
  generalize (u * 4294967296 + un) / Y = T at *
  refine ⟨by omega, by omega, ?_⟩
  obtain ⟨k, rfl⟩ : ∃ k, q = k + 1 := ⟨q - 1, by omega⟩
  rw [Nat.add_mul] at hq
  simp only [Nat.add_sub_cancel]
  omega
theorem exit1 {Y a b u un q r : Nat} (h : Y = a * 4294967296 + b) (ha : 0 < a) (hq : u = q * a + r) (hT : (u * 4294967296 + un) / Y ≤ q) (ht : q * b ≤ 4294967296 * r + un) : q = (u * 4294967296 + un) / Y := by
  have hY : 0 < Y := by omega
  refine Nat.le_antisymm ?_ hT
  rw [Nat.le_div_iff_mul_le hY, mulY h]; omega
theorem exit2 {Y a b u un q r : Nat} (h : Y = a * 4294967296 + b) (ha : 0 < a) (hb : b < 4294967296) (hu : u < Y) (hq : u = q * a + r) (hT : (u * 4294967296 + un) / Y ≤ q) (ht : 4294967296 ≤ r) : q = (u * 4294967296 + un) / Y := by
  have hq' : q < 4294967296 := by
    rcases Nat.lt_or_ge q 4294967296 with h1 | h1
    · exact h1
    · have : 4294967296 * a ≤ q * a := Nat.mul_le_mul_right _ h1
      omega
  refine exit1 h ha hq hT ?_
  have h2 : q * b ≤ 4294967296 * 4294967296 := Nat.mul_le_mul (by omega) (by omega)
  have h3 : 4294967296 * 4294967296 ≤ 4294967296 * r := Nat.mul_le_mul_left _ ht
  omega
theorem rem_eq {Y N : Nat} : N - N / Y * Y = N % Y := by
  have := Nat.div_add_mod N Y
  rw [Nat.mul_comm] at this
  omega
/-- the two digits together. -/
theorem two_ {Y M b : Nat} (hY : 0 < Y) : (M * 4294967296 + b) / Y = M / Y * 4294967296 + (M % Y * 4294967296 + b) / Y ∧ (M * 4294967296 + b) % Y = (M % Y * 4294967296 + b) % Y := by
  have hd := Nat.div_add_mod M Y
  have e2 : M * 4294967296 + b = (M % Y * 4294967296 + b) + Y * (M / Y * 4294967296) := by
    rw [← Nat.mul_assoc]
    generalize Y * (M / Y) = Z at *
    omega
  have d1 := Nat.add_mul_div_left (M % Y * 4294967296 + b) (M / Y * 4294967296) hY
  have d2 := Nat.add_mul_mod_self_left (M % Y * 4294967296 + b) Y (M / Y * 4294967296)
  rw [← e2] at d1 d2
  exact ⟨d1.trans (Nat.add_comm _ _), d2⟩
theorem two {Y u a b : Nat} (hY : 0 < Y) :
    (u * 18446744073709551616 + (a * 4294967296 + b)) / Y = (u * 4294967296 + a) / Y * 4294967296 + ((u * 4294967296 + a) % Y * 4294967296 + b) / Y ∧
    (u * 18446744073709551616 + (a * 4294967296 + b)) % Y = ((u * 4294967296 + a) % Y * 4294967296 + b) % Y := by
  have e : u * 18446744073709551616 + (a * 4294967296 + b) = (u * 4294967296 + a) * 4294967296 + b := by
    rw [Nat.add_mul, Nat.mul_assoc, Nat.add_assoc]
  rw [e]
  exact two_ hY
theorem shifted {P y k : Nat} (hk : 0 < k) : P * k / (y * k) = P / y ∧ P * k % (y * k) / k = P % y := by
  refine ⟨Nat.mul_div_mul_right _ _ hk, ?_⟩
  rw [Nat.mul_mod_mul_right, Nat.mul_div_cancel _ hk]
/-- the dividend, shifted: its upper word and its lower one. -/
theorem un {hi lo y s : Nat} (hs : s ≤ 63) (hlo : lo < 18446744073709551616) (hhi : hi < y) (_hy : y * 2 ^ s < 18446744073709551616) :
    (hi * 18446744073709551616 + lo) * 2 ^ s = (hi * 2 ^ s + lo / 2 ^ (64 - s)) * 18446744073709551616 + lo * 2 ^ s % 18446744073709551616 ∧
    hi * 2 ^ s + lo / 2 ^ (64 - s) < y * 2 ^ s ∧ lo / 2 ^ (64 - s) < 2 ^ s := by
  have e : (18446744073709551616 : Nat) = 2 ^ (64 - s) * 2 ^ s := by rw [← Nat.pow_add]; rw [show 64 - s + s = 64 from by omega]
  have hp : 0 < 2 ^ s := Nat.pow_pos (by omega)
  have hp' : 0 < 2 ^ (64 - s) := Nat.pow_pos (by omega)
  have h1 : lo / 2 ^ (64 - s) < 2 ^ s := by
    rw [Nat.div_lt_iff_lt_mul hp', Nat.mul_comm, ← e]; exact hlo
  have h2 : lo * 2 ^ s / 18446744073709551616 = lo / 2 ^ (64 - s) := by
    rw [e, Nat.mul_div_mul_right _ _ hp]
  have h3 := Nat.div_add_mod (lo * 2 ^ s) 18446744073709551616
  rw [h2] at h3
  have h4 : (hi + 1) * 2 ^ s ≤ y * 2 ^ s := Nat.mul_le_mul_right _ hhi
  rw [Nat.add_mul] at h4
  refine ⟨?_, by omega, h1⟩
  rw [Nat.add_mul, Nat.mul_right_comm]
  generalize hi * 2 ^ s = A at *
  generalize lo * 2 ^ s = B at *
  generalize lo / 2 ^ (64 - s) = C at *
  omega
end Go.Proofs.Ytoikpkgogncdhaa.Kn
