/- The contract of the reference's times: the product of two words, the high half and the low one. -/
import Derived.Test.YtoikpkgogncdhaaFxMd
import Derived.Lib.Mul64
namespace Go.Proofs.Ytoikpkgogncdhaa
open Go.RowKit

theorem tm_lo (x y : Nat) : (((x % 4294967296) * (y / 4294967296) + ((x / 4294967296) * (y % 4294967296) + (x % 4294967296) * (y % 4294967296) / 4294967296) % 4294967296) * 4294967296 % 18446744073709551616) + (x % 4294967296) * (y % 4294967296) % 4294967296 = x * y % 18446744073709551616 := by
  have e : x * y = (x / 4294967296) * (y / 4294967296) * (4294967296 * 4294967296) + ((x / 4294967296) * (y % 4294967296) + (x % 4294967296) * (y / 4294967296)) * 4294967296 + (x % 4294967296) * (y % 4294967296) := by
    rw [← Lib.split_mul, Nat.div_add_mod' x 4294967296, Nat.div_add_mod' y 4294967296]
  rw [e]
  generalize (x / 4294967296) * (y / 4294967296) = a
  generalize (x / 4294967296) * (y % 4294967296) = b
  generalize (x % 4294967296) * (y / 4294967296) = c
  generalize (x % 4294967296) * (y % 4294967296) = d
  omega

set_option maxRecDepth 100000 in
set_option maxHeartbeats 1000000 in
theorem times_any (x y : Nat) (hx : x < 18446744073709551616) (hy : y < 18446744073709551616) (w : World) :
    Calls Try.prog 73 #[.int .u64 x, .int .u64 y] w fun e w' => e = .returned (.tuple #[.int .u64 ((x * y / 18446744073709551616 : Nat) : Int), .int .u64 ((x * y % 18446744073709551616 : Nat) : Int)]) ∧ w = w' := by
  obtain ⟨k1, k2, k3, k4⟩ := Lib.mul64_hi x y hx hy
  have k5 := tm_lo x y
  have x1 := dv_and x hx
  have y1 := dv_and y hy
  have x2 : (x : Int) / 4294967296 = ((x / 4294967296 : Nat) : Int) := by omega
  have y2 : (y : Int) / 4294967296 = ((y / 4294967296 : Nat) : Int) := by omega
  have m : ∀ a b : Nat, (a : Int) * (b : Int) = ((a * b : Nat) : Int) := fun a b => (Int.natCast_mul a b).symm
  obtain ⟨al, hal⟩ : ∃ a, a = x % 4294967296 := ⟨_, rfl⟩
  obtain ⟨ah, hah⟩ : ∃ a, a = x / 4294967296 := ⟨_, rfl⟩
  obtain ⟨bl, hbl⟩ : ∃ a, a = y % 4294967296 := ⟨_, rfl⟩
  obtain ⟨bh, hbh⟩ : ∃ a, a = y / 4294967296 := ⟨_, rfl⟩
  have l1 : al * bl ≤ 4294967295 * 4294967295 := Nat.mul_le_mul (by omega) (by omega)
  have l2 : ah * bl ≤ 4294967295 * 4294967295 := Nat.mul_le_mul (by omega) (by omega)
  have l3 : al * bh ≤ 4294967295 * 4294967295 := Nat.mul_le_mul (by omega) (by omega)
  have l4 : ah * bh ≤ 4294967295 * 4294967295 := Nat.mul_le_mul (by omega) (by omega)
  simp only [← hal, ← hah, ← hbl, ← hbh] at k1 k2 k3 k4 k5
  rw [← hal] at x1; rw [← hah] at x2; rw [← hbl] at y1; rw [← hbh] at y2
  obtain ⟨lo, hlo⟩ : ∃ a, a = al * bl := ⟨_, rfl⟩
  obtain ⟨p, hp⟩ : ∃ a, a = ah * bl := ⟨_, rfl⟩
  obtain ⟨q, hq⟩ : ∃ a, a = al * bh := ⟨_, rfl⟩
  obtain ⟨r, hr⟩ : ∃ a, a = ah * bh := ⟨_, rfl⟩
  simp only [← hlo, ← hp, ← hq, ← hr] at k1 k2 k3 k4 k5 l1 l2 l3 l4
  have r1 : IntKind.u64.wrap ((al : Int) * (bl : Int)) = (lo : Int) := by rw [m, ← hlo, dv_wrap, Nat.mod_eq_of_lt (by omega)]
  have r2 : IntKind.u64.wrap ((ah : Int) * (bl : Int)) = (p : Int) := by rw [m, ← hp, dv_wrap, Nat.mod_eq_of_lt (by omega)]
  have r3 : IntKind.u64.wrap ((al : Int) * (bh : Int)) = (q : Int) := by rw [m, ← hq, dv_wrap, Nat.mod_eq_of_lt (by omega)]
  have r4 : IntKind.u64.wrap ((ah : Int) * (bh : Int)) = (r : Int) := by rw [m, ← hr, dv_wrap, Nat.mod_eq_of_lt (by omega)]
  obtain ⟨mm, hmm⟩ : ∃ a, a = p + lo / 4294967296 := ⟨_, rfl⟩
  simp only [← hmm] at k2 k3 k4 k5
  have r5 : (p : Int) + (lo : Int) / 4294967296 = (mm : Int) := by omega
  have r6 := dv_and mm (by omega)
  obtain ⟨ml, hml⟩ : ∃ a, a = mm % 4294967296 := ⟨_, rfl⟩
  obtain ⟨kk, hkk⟩ : ∃ a, a = q + ml := ⟨_, rfl⟩
  rw [← hml] at r6
  have r7 : (q : Int) + (ml : Int) = (kk : Int) := by omega
  have r8 := dv_and lo (by omega)
  obtain ⟨ll, hll⟩ : ∃ a, a = lo % 4294967296 := ⟨_, rfl⟩
  rw [← hll] at r8
  obtain ⟨X, hX⟩ : ∃ X, X = x * y % 18446744073709551616 := ⟨_, rfl⟩
  have r9 : bits .or .u64 (IntKind.u64.wrap ((kk : Int) * 4294967296)) (ll : Int) = (X : Int) := by
    have e1 : IntKind.u64.wrap ((kk : Int) * 4294967296) = ((kk * 4294967296 % 18446744073709551616 : Nat) : Int) := by rw [IntKind.wrap_u64]; omega
    have e2 : kk * 4294967296 % 18446744073709551616 = 2 ^ 32 * (kk % 4294967296) := by omega
    rw [e1, bits_or_u64_nat _ _ (by omega) (by omega), e2, ← Nat.two_pow_add_eq_or_of_lt (by omega), ← e2, hX, ← k5]
    omega
  obtain ⟨Hh, hH⟩ : ∃ X, X = x * y / 18446744073709551616 := ⟨_, rfl⟩
  have r10 : (r : Int) + (mm : Int) / 4294967296 + (kk : Int) / 4294967296 = (Hh : Int) := by omega
  rw [← hX, ← hH]
  have i1 : (lo : Int) ≤ 18446744073709551615 := by omega
  have i2 : (p : Int) + (lo : Int) / 4294967296 ≤ 18446744073709551615 := by omega
  have i3 : (q : Int) + (ml : Int) ≤ 18446744073709551615 := by omega
  have i4 : (r : Int) + (mm : Int) / 4294967296 ≤ 18446744073709551615 := by omega
  have i5 : (Hh : Int) ≤ 18446744073709551615 := by omega
  have i6 : (mm : Int) ≤ 18446744073709551615 := by omega
  have i7 : (kk : Int) ≤ 18446744073709551615 := by omega
  clear k1 k2 k3 k4 k5 l1 l2 l3 l4 hal hah hbl hbh hlo hp hq hr hmm hml hkk hll hX hH m hx hy
  go_enter Try.func73, Try.ntmps73
  go_wp2
  go_ret2
  exact ⟨rfl, rfl⟩
end Go.Proofs.Ytoikpkgogncdhaa
