/- The numbers of math/bits.Div64 as naturals: plain arithmetic, in the walk's spelling. -/
import Derived.Test.YtoikpkgogncdhaaFxBase
import Derived.Test.YtoikpkgogncdhaaFxKn
import Derived.Laws.Bits64b
import Derived.Lib.BitFns
namespace Go.Proofs.Ytoikpkgogncdhaa
open Go.RowKit

theorem bitLen_bd : ∀ (f x : Nat), x < 2 ^ f → f ≤ 64 → 0 < x → 2 ^ (Lib.bitLen x - 1) ≤ x ∧ x < 2 ^ Lib.bitLen x ∧ 1 ≤ Lib.bitLen x ∧ Lib.bitLen x ≤ f := by
  intro f
  induction f with
  | zero => intro x h _ h0; simp at h; omega
  | succ f ih =>
    intro x h hf h0
    have h64 : x < 2 ^ 64 := Nat.lt_of_lt_of_le h (Nat.pow_le_pow_right (by omega) hf)
    have e := Lib.bitLen_half x (by omega) h64
    rcases Nat.lt_or_ge x 2 with h2 | h2
    · have hx : x = 1 := by omega
      subst hx
      have e1 : Lib.bitLen 1 = 1 := by decide
      rw [e1]
      exact ⟨by decide, by decide, by decide, by omega⟩
    · have hh : x / 2 < 2 ^ f := by rw [Nat.pow_succ] at h; omega
      obtain ⟨a1, a2, a3, a4⟩ := ih (x / 2) hh (by omega) (by omega)
      rw [e]
      obtain ⟨k, hk⟩ : ∃ k, Lib.bitLen (x / 2) = k + 1 := ⟨Lib.bitLen (x / 2) - 1, by omega⟩
      rw [hk] at a1 a2 a4 ⊢
      simp only [Nat.add_sub_cancel] at a1
      rw [show 1 + (k + 1) - 1 = k + 1 from by omega, show 1 + (k + 1) = k + 1 + 1 from by omega]
      rw [Nat.pow_succ] at a2
      refine ⟨?_, ?_, by omega, by omega⟩
      · rw [Nat.pow_succ]; omega
      · rw [Nat.pow_succ, Nat.pow_succ]; omega

/-- The dividend and the divisor of Div64, shifted so that the divisor's highest bit is set. -/
structure Dv (hi lo y s Y a b u d1 d0 L : Nat) : Prop where
  e1 : IntKind.u64.wrap ((y : Int) * 2 ^ s) = (Y : Int)
  e2 : (Y : Int) / 4294967296 = (a : Int)
  e3 : bits .and .u64 (Y : Int) 4294967295 = (b : Int)
  e4 : bits .or .u64 (IntKind.u64.wrap ((hi : Int) * 2 ^ s)) ((lo : Int) / 2 ^ (64 - s)) = (u : Int)
  e5 : IntKind.u64.wrap ((lo : Int) * 2 ^ s) = (L : Int)
  e6 : (L : Int) / 4294967296 = (d1 : Int)
  e7 : bits .and .u64 (L : Int) 4294967295 = (d0 : Int)
  hY : Y = a * 4294967296 + b
  hb : b < 4294967296
  ha : a < 4294967296
  ha' : 2147483648 ≤ a
  hu : u < Y
  h1 : d1 < 4294967296
  h0 : d0 < 4294967296
  hN : (hi * 18446744073709551616 + lo) * 2 ^ s = u * 18446744073709551616 + (d1 * 4294967296 + d0)
  hYs : Y = y * 2 ^ s

theorem dv_and (L : Nat) (h : L < 18446744073709551616) : bits .and .u64 (L : Int) 4294967295 = ((L % 4294967296 : Nat) : Int) := by
  have h1 := bits_and_u64_nat L 4294967295 h (by omega)
  have e : L &&& 4294967295 = L % 4294967296 := Nat.and_two_pow_sub_one_eq_mod L 32
  rw [e] at h1
  exact h1
theorem dv_wrap (a : Nat) : IntKind.u64.wrap (a : Int) = ((a % 18446744073709551616 : Nat) : Int) := by rw [IntKind.wrap_u64]; omega
theorem dv_mk (hi lo y s : Nat) (hy : hi < y) (hy64 : y < 18446744073709551616) (hlo : lo < 18446744073709551616) (hs : Lib.bitLen y + s = 64) (hs63 : s ≤ 63) :
    ∃ Y a b u d1 d0 L, Dv hi lo y s Y a b u d1 d0 L := by
  obtain ⟨c1, c2, c3, c4⟩ := bitLen_bd 64 y (by simpa using hy64) (by omega) (by omega)
  have p64 : (2 : Nat) ^ 64 = 18446744073709551616 := by decide
  have hp : 0 < 2 ^ s := Nat.pow_pos (by omega)
  have hY1 : y * 2 ^ s < 18446744073709551616 := by
    have : y * 2 ^ s < 2 ^ Lib.bitLen y * 2 ^ s := Nat.mul_lt_mul_of_pos_right c2 hp
    rw [← Nat.pow_add, hs, p64] at this
    exact this
  have hY2 : 9223372036854775808 ≤ y * 2 ^ s := by
    have : 2 ^ (Lib.bitLen y - 1) * 2 ^ s ≤ y * 2 ^ s := Nat.mul_le_mul_right _ c1
    rw [← Nat.pow_add, show Lib.bitLen y - 1 + s = 63 from by omega] at this
    exact this
  obtain ⟨n1, n2, n3⟩ := Kn.un hs63 hlo hy hY1
  have cast : ∀ x : Nat, (x : Int) * 2 ^ s = ((x * 2 ^ s : Nat) : Int) := fun x => by rw [Int.natCast_mul, Int.natCast_pow]; rfl
  have castd : (lo : Int) / 2 ^ (64 - s) = ((lo / 2 ^ (64 - s) : Nat) : Int) := by rw [Int.natCast_ediv, Int.natCast_pow]; rfl
  have hor : hi * 2 ^ s ||| lo / 2 ^ (64 - s) = hi * 2 ^ s + lo / 2 ^ (64 - s) := by
    rw [Nat.mul_comm]; exact (Nat.two_pow_add_eq_or_of_lt n3 hi).symm
  refine ⟨y * 2 ^ s, y * 2 ^ s / 4294967296, y * 2 ^ s % 4294967296, hi * 2 ^ s + lo / 2 ^ (64 - s), lo * 2 ^ s % 18446744073709551616 / 4294967296, lo * 2 ^ s % 18446744073709551616 % 4294967296, lo * 2 ^ s % 18446744073709551616, ?_⟩
  generalize hYd : y * 2 ^ s = Y at *
  generalize hHd : hi * 2 ^ s = Hh at *
  generalize hCd : lo / 2 ^ (64 - s) = C at *
  generalize hLd : lo * 2 ^ s = L0 at *
  exact {
    e1 := by rw [cast, hYd, dv_wrap, Nat.mod_eq_of_lt hY1]
    e2 := by omega
    e3 := dv_and Y hY1
    e4 := by
      rw [castd, cast, hHd, dv_wrap, Nat.mod_eq_of_lt (by omega), bits_or_u64_nat Hh C (by omega) (by omega), hor]
    e5 := by rw [cast, hLd, dv_wrap]
    e6 := by omega
    e7 := dv_and _ (by omega)
    hY := by omega
    hb := by omega
    ha := by omega
    ha' := by omega
    hu := n2
    h1 := by omega
    h0 := by omega
    hN := by rw [n1]; omega
    hYs := hYd.symm }

/-- One digit: what is tried first. -/
structure Dg (Y a b u d T Q M R : Nat) : Prop where
  e8 : (u : Int) / (a : Int) = (Q : Int)
  e9 : IntKind.u64.wrap ((Q : Int) * (a : Int)) = (M : Int)
  e10 : (u : Int) - (M : Int) = (R : Int)
  hM : M ≤ u
  hq : u = Q * a + R
  hT : T ≤ Q
  hQ : Q < 8589934592
  hR : R < a
  hTd : T = (u * 4294967296 + d) / Y
  hTl : T < 4294967296
theorem dg_mk {Y a b u d : Nat} (hY : Y = a * 4294967296 + b) (hb : b < 4294967296) (ha : a < 4294967296) (ha' : 2147483648 ≤ a) (hu : u < Y) (hd : d < 4294967296) : ∃ T Q M R, Dg Y a b u d T Q M R := by
  have hm := Nat.div_add_mod u a
  have hr := Nat.mod_lt u (show a > 0 by omega)
  have hQ : u / a < 8589934592 := by
    rw [Nat.div_lt_iff_lt_mul (by omega)]
    have : 8589934592 * 2147483648 ≤ 8589934592 * a := Nat.mul_le_mul_left _ ha'
    omega
  have hi := Kn.init_le (un := d) (u := u) hY (by omega) hd
  have hTl := Kn.T_lt (un := d) (u := u) (Y := Y) (by omega) hu hd
  have c8 : (u : Int) / (a : Int) = ((u / a : Nat) : Int) := (Int.natCast_ediv u a).symm
  have cM : ((u / a : Nat) : Int) * (a : Int) = ((u / a * a : Nat) : Int) := (Int.natCast_mul _ _).symm
  have hMu : u / a * a ≤ u := Nat.div_mul_le_self u a
  rw [Nat.mul_comm] at hm
  generalize hTd : (u * 4294967296 + d) / Y = T at *
  generalize hQd : u / a = Q at *
  generalize u % a = R at *
  refine ⟨T, Q, Q * a, R, ?_⟩
  exact { e8 := c8, e9 := by rw [cM, dv_wrap, Nat.mod_eq_of_lt (by omega)], e10 := by omega, hM := hMu, hq := hm.symm, hT := hi, hQ := hQ, hR := hr, hTd := hTd.symm, hTl := hTl }
/-- ... and what is left behind it. -/
theorem dg_rem {Y u d T : Nat} (hY64 : Y < 18446744073709551616) (hY0 : 0 < Y) (hT : T = (u * 4294967296 + d) / Y) :
    IntKind.u64.wrap (IntKind.u64.wrap (IntKind.u64.wrap ((u : Int) * 4294967296) + (d : Int)) - IntKind.u64.wrap ((T : Int) * (Y : Int))) = (((u * 4294967296 + d) % Y : Nat) : Int) := by
  have h1 := Kn.rem_eq (Y := Y) (N := u * 4294967296 + d)
  have h2 := Nat.div_mul_le_self (u * 4294967296 + d) Y
  have h3 := Nat.mod_lt (u * 4294967296 + d) hY0
  have c : (T : Int) * (Y : Int) = ((T * Y : Nat) : Int) := (Int.natCast_mul _ _).symm
  rw [← hT] at h1 h2
  rw [c]
  generalize (u * 4294967296 + d) % Y = M at *
  generalize T * Y = Z at *
  simp only [IntKind.wrap_u64]
  omega
end Go.Proofs.Ytoikpkgogncdhaa
