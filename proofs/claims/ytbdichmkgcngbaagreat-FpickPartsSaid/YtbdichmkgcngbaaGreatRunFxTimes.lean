/- The contract of the reference's times: the product of two words, the high half and the low one. · The contract of the reference's MulDiv: the long division, walked. -/
import Derived.Test.YtbdichmkgcngbaaGreatRunFxDiv
import Derived.Lib.Mul64
namespace Go.Proofs.YtbdichmkgcngbaaGreat
open Go.RowKit

theorem tm_lo (x y : Nat) : (((x % 4294967296) * (y / 4294967296) + ((x / 4294967296) * (y % 4294967296) + (x % 4294967296) * (y % 4294967296) / 4294967296) % 4294967296) * 4294967296 % 18446744073709551616) + (x % 4294967296) * (y % 4294967296) % 4294967296 = x * y % 18446744073709551616 := by
 have e : x * y = (x / 4294967296) * (y / 4294967296) * (4294967296 * 4294967296) + ((x / 4294967296) * (y % 4294967296) + (x % 4294967296) * (y / 4294967296)) * 4294967296 + (x % 4294967296) * (y % 4294967296) := by
  rw [← Lib.split_mul, Nat.div_add_mod' x 4294967296, Nat.div_add_mod' y 4294967296]
 rw [e]
 generalize (x / 4294967296) * (y / 4294967296) = a
 generalize (x / 4294967296) * (y % 4294967296) = b
 generalize (x % 4294967296) * (y / 4294967296) = c
 generalize (x % 4294967296) * (y % 4294967296) = d
 omega

set_option maxRecDepth 100000 in
set_option maxHeartbeats 1000000 in
theorem times_any (x y : Nat) (hx : x < 18446744073709551616) (hy : y < 18446744073709551616) (w : World) :
  Calls Tryz.prog 99 #[.int .u64 x, .int .u64 y] w fun e w' => e = .returned (.tuple #[.int .u64 ((x * y / 18446744073709551616 : Nat) : Int), .int .u64 ((x * y % 18446744073709551616 : Nat) : Int)]) ∧ w = w' := by
 obtain ⟨k1, k2, k3, k4⟩ := Lib.mul64_hi x y hx hy
 have k5 := tm_lo x y
 have x1 := dv_and x hx
 have y1 := dv_and y hy
 have x2 : (x : Int) / 4294967296 = ((x / 4294967296 : Nat) : Int) := by omega
 have y2 : (y : Int) / 4294967296 = ((y / 4294967296 : Nat) : Int) := by omega
 have m : ∀ a b : Nat, (a : Int) * (b : Int) = ((a * b : Nat) : Int) := fun a b => (Int.natCast_mul a b).symm
 obtain ⟨al, hal⟩ : ∃ a, a = x % 4294967296 := ⟨_, rfl⟩
 obtain ⟨ah, hah⟩ : ∃ a, a = x / 4294967296 := ⟨_, rfl⟩
 obtain ⟨bl, hbl⟩ : ∃ a, a = y % 4294967296 := ⟨_, rfl⟩
 obtain ⟨bh, hbh⟩ : ∃ a, a = y / 4294967296 := ⟨_, rfl⟩
 have l1 : al * bl ≤ 4294967295 * 4294967295 := Nat.mul_le_mul (by omega) (by omega)
 have l2 : ah * bl ≤ 4294967295 * 4294967295 := Nat.mul_le_mul (by omega) (by omega)
 have l3 : al * bh ≤ 4294967295 * 4294967295 := Nat.mul_le_mul (by omega) (by omega)
 have l4 : ah * bh ≤ 4294967295 * 4294967295 := Nat.mul_le_mul (by omega) (by omega)
 simp only [← hal, ← hah, ← hbl, ← hbh] at k1 k2 k3 k4 k5
 rw [← hal] at x1; rw [← hah] at x2; rw [← hbl] at y1; rw [← hbh] at y2
 obtain ⟨lo, hlo⟩ : ∃ a, a = al * bl := ⟨_, rfl⟩
 obtain ⟨p, hp⟩ : ∃ a, a = ah * bl := ⟨_, rfl⟩
 obtain ⟨q, hq⟩ : ∃ a, a = al * bh := ⟨_, rfl⟩
 obtain ⟨r, hr⟩ : ∃ a, a = ah * bh := ⟨_, rfl⟩
 simp only [← hlo, ← hp, ← hq, ← hr] at k1 k2 k3 k4 k5 l1 l2 l3 l4
 have r1 : IntKind.u64.wrap ((al : Int) * (bl : Int)) = (lo : Int) := by rw [m, ← hlo, dv_wrap, Nat.mod_eq_of_lt (by omega)]
 have r2 : IntKind.u64.wrap ((ah : Int) * (bl : Int)) = (p : Int) := by rw [m, ← hp, dv_wrap, Nat.mod_eq_of_lt (by omega)]
 have r3 : IntKind.u64.wrap ((al : Int) * (bh : Int)) = (q : Int) := by rw [m, ← hq, dv_wrap, Nat.mod_eq_of_lt (by omega)]
 have r4 : IntKind.u64.wrap ((ah : Int) * (bh : Int)) = (r : Int) := by rw [m, ← hr, dv_wrap, Nat.mod_eq_of_lt (by omega)]
 obtain ⟨mm, hmm⟩ : ∃ a, a = p + lo / 4294967296 := ⟨_, rfl⟩
 simp only [← hmm] at k2 k3 k4 k5
 have r5 : (p : Int) + (lo : Int) / 4294967296 = (mm : Int) := by omega
 have r6 := dv_and mm (by omega)
 obtain ⟨ml, hml⟩ : ∃ a, a = mm % 4294967296 := ⟨_, rfl⟩
 obtain ⟨kk, hkk⟩ : ∃ a, a = q + ml := ⟨_, rfl⟩
 rw [← hml] at r6
 have r7 : (q : Int) + (ml : Int) = (kk : Int) := by omega
 have r8 := dv_and lo (by omega)
 obtain ⟨ll, hll⟩ : ∃ a, a = lo % 4294967296 := ⟨_, rfl⟩
 rw [← hll] at r8
 obtain ⟨X, hX⟩ : ∃ X, X = x * y % 18446744073709551616 := ⟨_, rfl⟩
 have r9 : bits .or .u64 (IntKind.u64.wrap ((kk : Int) * 4294967296)) (ll : Int) = (X : Int) := by
  have e1 : IntKind.u64.wrap ((kk : Int) * 4294967296) = ((kk * 4294967296 % 18446744073709551616 : Nat) : Int) := by rw [IntKind.wrap_u64]; omega
  have e2 : kk * 4294967296 % 18446744073709551616 = 2 ^ 32 * (kk % 4294967296) := by omega
  rw [e1, bits_or_u64_nat _ _ (by omega) (by omega), e2, ← Nat.two_pow_add_eq_or_of_lt (by omega), ← e2, hX, ← k5]
  omega
 obtain ⟨Hh, hH⟩ : ∃ X, X = x * y / 18446744073709551616 := ⟨_, rfl⟩
 have r10 : (r : Int) + (mm : Int) / 4294967296 + (kk : Int) / 4294967296 = (Hh : Int) := by omega
 rw [← hX, ← hH]
 have i1 : (lo : Int) ≤ 18446744073709551615 := by omega
 have i2 : (p : Int) + (lo : Int) / 4294967296 ≤ 18446744073709551615 := by omega
 have i3 : (q : Int) + (ml : Int) ≤ 18446744073709551615 := by omega
 have i4 : (r : Int) + (mm : Int) / 4294967296 ≤ 18446744073709551615 := by omega
 have i5 : (Hh : Int) ≤ 18446744073709551615 := by omega
 have i6 : (mm : Int) ≤ 18446744073709551615 := by omega
 have i7 : (kk : Int) ≤ 18446744073709551615 := by omega
 clear k1 k2 k3 k4 k5 l1 l2 l3 l4 hal hah hbl hbh hlo hp hq hr hmm hml hkk hll hX hH m hx hy
 go_enter Tryz.func99, Tryz.ntmps99
 go_wp2
 go_ret2
 exact ⟨rfl, rfl⟩
end Go.Proofs.YtbdichmkgcngbaaGreat
namespace Go.Proofs.YtbdichmkgcngbaaGreat
open Go.RowKit

theorem i64_and63 (n : Int) : bits .and .i64 n 63 = n % 64 := by
 have h63 : (BitVec.ofInt 64 63).toNat = 2 ^ 6 - 1 := by decide
 have key : (BitVec.ofInt 64 n &&& BitVec.ofInt 64 63).toNat = (n % ((2 ^ 64 : Nat) : Int)).toNat % 2 ^ 6 := by
  rw [BitVec.toNat_and, BitVec.toNat_ofInt, h63, Nat.and_two_pow_sub_one_eq_mod]
 show IntKind.i64.wrap ((BitVec.ofInt 64 n &&& BitVec.ofInt 64 63).toNat : Nat) = n % 64
 rw [key, IntKind.wrap_i64]
 omega

set_option maxRecDepth 100000 in
set_option maxHeartbeats 4000000 in
theorem rmuldiv_any (a b c : Int) (ha1 : -9223372036854775808 ≤ a) (ha2 : a ≤ 9223372036854775807) (hb1 : -9223372036854775808 ≤ b) (hb2 : b ≤ 9223372036854775807) (hc1 : -9223372036854775808 ≤ c) (hc2 : c ≤ 9223372036854775807) (w : World) :
  Calls Tryz.prog 98 #[.int .i64 a, .int .i64 b, .int .i64 c] w fun e w' => e = mdE a b c ∧ w = w' := by
 by_cases hc0 : c = 0
 ·
  subst hc0
  have E := Lib.hid (md_no (a := a) (b := b) (c := 0) (by simp [mdOk]))
  go_enter Tryz.func98, Tryz.ntmps98
  go_wp2
  go_ret2
  exact ⟨E.out, rfl⟩
 have hP1 : a.natAbs * b.natAbs ≤ 9223372036854775808 * 9223372036854775808 := Nat.mul_le_mul (by omega) (by omega)
 have t0 : (c == 0) = false := by simp [hc0]
 have sa' := rsize_any a ha1 ha2
 have sb' := rsize_any b hb1 hb2
 have sc' := rsize_any c hc1 hc2
 have sm' := times_any a.natAbs b.natAbs (by omega) (by omega)
 obtain ⟨A, hA⟩ : ∃ A, A = a.natAbs := ⟨_, rfl⟩
 obtain ⟨B, hB⟩ : ∃ B, B = b.natAbs := ⟨_, rfl⟩
 obtain ⟨d, hd⟩ : ∃ d, d = c.natAbs := ⟨_, rfl⟩
 obtain ⟨H, hH⟩ : ∃ H, H = A * B / 18446744073709551616 := ⟨_, rfl⟩
 obtain ⟨L, hL⟩ : ∃ L, L = A * B % 18446744073709551616 := ⟨_, rfl⟩
 rw [← hA] at sa' sm' hP1; rw [← hB] at sb' sm' hP1; rw [← hd] at sc'; rw [← hH, ← hL] at sm'
 have hPeq : H * 18446744073709551616 + L = A * B := by omega
 have hd0 : 1 ≤ d := by omega
 have hd63 : d ≤ 9223372036854775808 := by omega
 have hL1 : L < 18446744073709551616 := by omega
 have hH1 : H < 18446744073709551616 := by omega
 have sa := Lib.hid sa'; have sb := Lib.hid sb'; have sc := Lib.hid sc'; have sm := Lib.hid sm'
 have i1 : (H : Int) ≤ 18446744073709551615 := by omega
 have i2 : (L : Int) ≤ 18446744073709551615 := by omega
 have i3 : (d : Int) ≤ 9223372036854775808 := by omega
 have i4 : (1 : Int) ≤ (d : Int) := by omega
 have LD := Lib.hid (Ld.start (P := A * B) (d := d) (Nat.lt_of_le_of_lt hP1 (by decide)))
 have HP := Lib.hid hPeq
 have HB := Lib.hid (And.intro hd0 (And.intro hd63 (And.intro hL1 hH1)))
 have HE := Lib.hid (And.intro hA (And.intro hB hd))
 clear sa' sb' sc' sm' hP1 hc0 hH hL hPeq hd0 hd63 hL1 hH1 hA hB hd
 go_enter Tryz.func98, Tryz.ntmps98
 go_wp2_with fail
 refine (sa.out _).mono ?_; rintro e w1 ⟨rfl, rfl⟩
 go_wp2_with fail
 refine (sb.out _).mono ?_; rintro e w1 ⟨rfl, rfl⟩
 go_wp2_with fail
 refine (sm.out _).mono ?_; rintro e w1 ⟨rfl, rfl⟩
 go_wp2_with fail
 refine (sc.out _).mono ?_; rintro e w1 ⟨rfl, rfl⟩
 go_wp2
 go_loop [11, 12, 13, 14] (fun tq tr to ti => ∃ (k q r : Nat) (o : Bool) (i : Int), tq = .int .u64 q ∧ tr = .int .u64 r ∧ to = .bool o ∧ ti = .int .i64 i ∧ Hid (i = (k : Int) - 1) ∧ k ≤ 128 ∧ Hid (Ld (A * B) d k q r o)) (fun _ _ _ ti => (intOf ti + 1).toNat)
 case atStart => exact ⟨128, 0, 0, false, 127, rfl, rfl, rfl, rfl, rfl, by omega, LD⟩
 case round =>
  obtain ⟨k, q, r, o, i, rfl, rfl, rfl, rfl, hi, hk, hld⟩ := hrel
  rcases Nat.eq_zero_or_pos k with h0 | h0
  ·
   subst h0
   obtain rfl : i = -1 := by have := hi.out; omega
   have q0 := hld.out.hq
   have r0 := hld.out.hr
   have o0 := hld.out.ho
   rw [Nat.pow_zero, Nat.div_one] at q0 r0 o0
   have hr1 : (r : Int) < (d : Int) := by have := (hld.out.bound HB.out.1).1; omega
   have hq1 : (q : Int) ≤ 18446744073709551615 := by have := (hld.out.bound HB.out.1).2; omega
   have hc0 : c ≠ 0 := by have := HE.out.2.2; have := HB.out.1; omega
   clear hk hi hld
   cases o
   ·
    have hqq : A * B / d < 9223372036854775808 := by simpa using o0.symm
    have hq2 : q = A * B / d := by rw [q0]; exact Nat.mod_eq_of_lt (by omega)
    have j5 : (q : Int) ≤ 9223372036854775807 := by omega
    obtain ⟨hA, hB, hd⟩ := HE.out
    by_cases h2 : (d : Int) - (r : Int) ≤ (r : Int)
    ·
     have hup := rq_up (P := A * B) (d := d) (by omega)
     rw [← hq2] at hup
     obtain ⟨q1, hqe⟩ : ∃ q1, q1 = q + 1 := ⟨_, rfl⟩
     have eQ : (q : Int) + 1 = (q1 : Int) := by omega
     have j0 : (q1 : Int) ≤ 9223372036854775808 := by omega
     by_cases h3 : (4611686018427387904 : Int) < (q1 : Int)
     ·
      have E := Lib.hid (md_no (a := a) (b := b) (c := c) (mdOk_no (by rw [← hA, ← hB, ← hd]; omega)))
      clear hup hqe hA hB hd q0 r0 o0 hqq hq2 hc0
      go_wp2
      go_ret2
      exact ⟨E.out, rfl⟩
     have hok := mdOk_yes (a := a) (b := b) (c := c) hc0 (by rw [← hA, ← hB, ← hd]; omega)
     cases hn : (!((!(decide (a < 0) == decide (b < 0))) == decide (c < 0)))
     ·
      have E := Lib.hid (md_pos (a := a) (b := b) (c := c) (q := (q1 : Int)) hok hn (by rw [← hA, ← hB, ← hd]; omega))
      clear hup hqe hA hB hd q0 r0 o0 hqq hq2 hc0 hok
      go_wp2
      go_ret2
      exact ⟨E.out, rfl⟩
     ·
      have E := Lib.hid (md_neg (a := a) (b := b) (c := c) (q := (q1 : Int)) hok hn (by rw [← hA, ← hB, ← hd]; omega))
      clear hup hqe hA hB hd q0 r0 o0 hqq hq2 hc0 hok
      go_wp2
      go_ret2
      exact ⟨E.out, rfl⟩
    ·
     have hup := rq_dn (P := A * B) (d := d) (by omega)
     rw [← hq2] at hup
     by_cases h3 : (4611686018427387904 : Int) < (q : Int)
     ·
      have E := Lib.hid (md_no (a := a) (b := b) (c := c) (mdOk_no (by rw [← hA, ← hB, ← hd]; omega)))
      clear hup hA hB hd q0 r0 o0 hqq hq2 hc0
      go_wp2
      go_ret2
      exact ⟨E.out, rfl⟩
     have hok := mdOk_yes (a := a) (b := b) (c := c) hc0 (by rw [← hA, ← hB, ← hd]; omega)
     cases hn : (!((!(decide (a < 0) == decide (b < 0))) == decide (c < 0)))
     ·
      have E := Lib.hid (md_pos (a := a) (b := b) (c := c) (q := (q : Int)) hok hn (by rw [← hA, ← hB, ← hd]; omega))
      clear hup hA hB hd q0 r0 o0 hqq hq2 hc0 hok
      go_wp2
      go_ret2
      exact ⟨E.out, rfl⟩
     ·
      have E := Lib.hid (md_neg (a := a) (b := b) (c := c) (q := (q : Int)) hok hn (by rw [← hA, ← hB, ← hd]; omega))
      clear hup hA hB hd q0 r0 o0 hqq hq2 hc0 hok
      go_wp2
      go_ret2
      exact ⟨E.out, rfl⟩
   ·
    have hqq : 9223372036854775808 ≤ A * B / d := by simpa using o0.symm
    have E := Lib.hid (md_no (a := a) (b := b) (c := c) (mdOk_no (by have := rq_ge (A * B) d; rw [← HE.out.1, ← HE.out.2.1, ← HE.out.2.2]; omega)))
    clear q0 r0 o0 hqq hc0
    by_cases h2 : (d : Int) - (r : Int) ≤ (r : Int)
    ·
     go_wp2
     go_ret2
     exact ⟨E.out, rfl⟩
    ·
     go_wp2
     go_ret2
     exact ⟨E.out, rfl⟩
  ·
   obtain ⟨j, rfl⟩ : ∃ j, k = j + 1 := ⟨k - 1, by omega⟩
   obtain rfl : i = (j : Int) := by have := hi.out; omega
   have hj1 : (j : Int) ≤ 127 := by omega
   clear hk h0
   obtain ⟨m, hm⟩ : ∃ m, m = j % 64 := ⟨_, rfl⟩
   obtain ⟨X, hX⟩ : ∃ X, X = L / 2 ^ m := ⟨_, rfl⟩
   have a1 : bits .and .i64 (j : Int) 63 = (m : Int) := by rw [i64_and63, hm]; omega
   have x1 : (L : Int) / 2 ^ m = (X : Int) := by rw [hX, Int.natCast_ediv, Int.natCast_pow]; rfl
   have hXb : X < 18446744073709551616 := Nat.lt_of_le_of_lt (by rw [hX]; exact Nat.div_le_self _ _) HB.out.2.2.1
   have m1 : (m : Int) ≤ 63 := by omega
   by_cases hj : (64 : Int) ≤ (j : Int)
   ·
    obtain ⟨Y, hY⟩ : ∃ Y, Y = H / 2 ^ (j - 64) := ⟨_, rfl⟩
    have y1 : (H : Int) / 2 ^ (j - 64) = (Y : Int) := by rw [hY, Int.natCast_ediv, Int.natCast_pow]; rfl
    have hYb : Y < 18446744073709551616 := Nat.lt_of_le_of_lt (by rw [hY]; exact Nat.div_le_self _ _) HB.out.2.2.2
    have y2 := and_one Y hYb
    obtain ⟨b, hb⟩ : ∃ b, b = Y % 2 := ⟨_, rfl⟩
    rw [← hb] at y2
    have HBt := Lib.hid (show A * B / 2 ^ j % 2 = b from by rw [← HP.out, bit_hi HB.out.2.2.1 (by omega), hb, hY])
    clear hY hb hYb hX hm hXb
    have hr1 : (r : Int) < (d : Int) := by have := (hld.out.bound HB.out.1).1; omega
    have hq1 : (q : Int) ≤ 18446744073709551615 := by have := (hld.out.bound HB.out.1).2; omega
    have b2 : b < 2 := by rw [← HBt.out]; exact Nat.mod_lt _ (by omega)
    have t1 : (r : Int) / 9223372036854775808 = 0 := by omega
    obtain ⟨R2, hR2⟩ : ∃ x, x = 2 * r := ⟨_, rfl⟩
    have s1 : IntKind.u64.wrap ((r : Int) * 2) = (R2 : Int) := by rw [IntKind.wrap_u64]; omega
    obtain ⟨R1, hR1⟩ : ∃ x, x = 2 * r + b := ⟨_, rfl⟩
    have s2 : bits .or .u64 (R2 : Int) (b : Int) = (R1 : Int) := by rw [hR2, hR1]; exact or_bit (by omega) b2
    obtain ⟨Q2, hQ2⟩ : ∃ x, x = q * 2 % 18446744073709551616 := ⟨_, rfl⟩
    have u1 : IntKind.u64.wrap ((q : Int) * 2) = (Q2 : Int) := by rw [IntKind.wrap_u64]; omega
    obtain ⟨Q3, hQ3⟩ : ∃ x, x = Q2 + 1 := ⟨_, rfl⟩
    have u2 : bits .or .u64 (Q2 : Int) 1 = (Q3 : Int) := by
     have e : Q2 = 2 * (Q2 / 2) := by omega
     have := or_bit (x := Q2 / 2) (b := 1) (by omega) (by omega)
     rw [← e] at this
     rw [hQ3]; exact this
    obtain ⟨Rd, hRd⟩ : ∃ x, x = R1 - d := ⟨_, rfl⟩
    have LDy := Lib.hid (fun hx => hld.out.yes (P := A * B) HB.out.1 hx)
    have LDn := Lib.hid (fun hx => hld.out.no (P := A * B) HB.out.1 hx)
    rw [HBt.out, ← hQ2, ← hQ3, ← hR1, ← hRd] at LDy
    rw [HBt.out, ← hQ2, ← hR1] at LDn
    have hRd' := Lib.hid hRd
    have j2 : (R1 : Int) ≤ 18446744073709551615 := by omega
    clear hR2 hR1 hQ2 hQ3 hRd b2
    cases o
    ·
     by_cases hz : 4611686018427387904 ≤ (q : Int)
     ·
      have z : ((q : Int) / 4611686018427387904 != 0) = true := by simp; omega
      have HO := Lib.hid (show (false || decide (4611686018427387904 ≤ q)) = true from by simp; omega)
      clear hz
      by_cases hx : (d : Int) ≤ (R1 : Int)
      ·
       have eRd : (R1 : Int) - (d : Int) = (Rd : Int) := by have := hRd'.out; omega
       have LD := Lib.hid (LDy.out (by omega))
       rw [HO.out] at LD
       clear LDy LDn
       go_wp2
       go_round
       case rel => exact ⟨j, Q3, Rd, true, (j : Int) - 1, rfl, rfl, rfl, rfl, rfl, by omega, LD.out⟩
       case measure => first | (simp [intOf]; done) | (simp [intOf]; omega)
      ·
       have LD := Lib.hid (LDn.out (by omega))
       rw [HO.out] at LD
       clear LDy LDn
       go_wp2
       go_round
       case rel => exact ⟨j, Q2, R1, true, (j : Int) - 1, rfl, rfl, rfl, rfl, rfl, by omega, LD.out⟩
       case measure => first | (simp [intOf]; done) | (simp [intOf]; omega)
     ·
      have z : ((q : Int) / 4611686018427387904 != 0) = false := by simp; omega
      have HO := Lib.hid (show (false || decide (4611686018427387904 ≤ q)) = false from by simp; omega)
      clear hz
      by_cases hx : (d : Int) ≤ (R1 : Int)
      ·
       have eRd : (R1 : Int) - (d : Int) = (Rd : Int) := by have := hRd'.out; omega
       have LD := Lib.hid (LDy.out (by omega))
       rw [HO.out] at LD
       clear LDy LDn
       go_wp2
       go_round
       case rel => exact ⟨j, Q3, Rd, false, (j : Int) - 1, rfl, rfl, rfl, rfl, rfl, by omega, LD.out⟩
       case measure => first | (simp [intOf]; done) | (simp [intOf]; omega)
      ·
       have LD := Lib.hid (LDn.out (by omega))
       rw [HO.out] at LD
       clear LDy LDn
       go_wp2
       go_round
       case rel => exact ⟨j, Q2, R1, false, (j : Int) - 1, rfl, rfl, rfl, rfl, rfl, by omega, LD.out⟩
       case measure => first | (simp [intOf]; done) | (simp [intOf]; omega)
    ·
     have HO := Lib.hid (show (true || decide (4611686018427387904 ≤ q)) = true from rfl)
     by_cases hx : (d : Int) ≤ (R1 : Int)
     ·
      have eRd : (R1 : Int) - (d : Int) = (Rd : Int) := by have := hRd'.out; omega
      have LD := Lib.hid (LDy.out (by omega))
      rw [HO.out] at LD
      clear LDy LDn
      go_wp2
      go_round
      case rel => exact ⟨j, Q3, Rd, true, (j : Int) - 1, rfl, rfl, rfl, rfl, rfl, by omega, LD.out⟩
      case measure => first | (simp [intOf]; done) | (simp [intOf]; omega)
     ·
      have LD := Lib.hid (LDn.out (by omega))
      rw [HO.out] at LD
      clear LDy LDn
      go_wp2
      go_round
      case rel => exact ⟨j, Q2, R1, true, (j : Int) - 1, rfl, rfl, rfl, rfl, rfl, by omega, LD.out⟩
      case measure => first | (simp [intOf]; done) | (simp [intOf]; omega)
   ·
    have y2 := and_one X hXb
    obtain ⟨b, hb⟩ : ∃ b, b = X % 2 := ⟨_, rfl⟩
    rw [← hb] at y2
    have HBt := Lib.hid (show A * B / 2 ^ j % 2 = b from by rw [← HP.out, bit_lo (by omega), hb, hX, show m = j from by omega])
    clear hb hX hm hXb
    have hr1 : (r : Int) < (d : Int) := by have := (hld.out.bound HB.out.1).1; omega
    have hq1 : (q : Int) ≤ 18446744073709551615 := by have := (hld.out.bound HB.out.1).2; omega
    have b2 : b < 2 := by rw [← HBt.out]; exact Nat.mod_lt _ (by omega)
    have t1 : (r : Int) / 9223372036854775808 = 0 := by omega
    obtain ⟨R2, hR2⟩ : ∃ x, x = 2 * r := ⟨_, rfl⟩
    have s1 : IntKind.u64.wrap ((r : Int) * 2) = (R2 : Int) := by rw [IntKind.wrap_u64]; omega
    obtain ⟨R1, hR1⟩ : ∃ x, x = 2 * r + b := ⟨_, rfl⟩
    have s2 : bits .or .u64 (R2 : Int) (b : Int) = (R1 : Int) := by rw [hR2, hR1]; exact or_bit (by omega) b2
    obtain ⟨Q2, hQ2⟩ : ∃ x, x = q * 2 % 18446744073709551616 := ⟨_, rfl⟩
    have u1 : IntKind.u64.wrap ((q : Int) * 2) = (Q2 : Int) := by rw [IntKind.wrap_u64]; omega
    obtain ⟨Q3, hQ3⟩ : ∃ x, x = Q2 + 1 := ⟨_, rfl⟩
    have u2 : bits .or .u64 (Q2 : Int) 1 = (Q3 : Int) := by
     have e : Q2 = 2 * (Q2 / 2) := by omega
     have := or_bit (x := Q2 / 2) (b := 1) (by omega) (by omega)
     rw [← e] at this
     rw [hQ3]; exact this
    obtain ⟨Rd, hRd⟩ : ∃ x, x = R1 - d := ⟨_, rfl⟩
    have LDy := Lib.hid (fun hx => hld.out.yes (P := A * B) HB.out.1 hx)
    have LDn := Lib.hid (fun hx => hld.out.no (P := A * B) HB.out.1 hx)
    rw [HBt.out, ← hQ2, ← hQ3, ← hR1, ← hRd] at LDy
    rw [HBt.out, ← hQ2, ← hR1] at LDn
    have hRd' := Lib.hid hRd
    have j2 : (R1 : Int) ≤ 18446744073709551615 := by omega
    clear hR2 hR1 hQ2 hQ3 hRd b2
    cases o
    ·
     by_cases hz : 4611686018427387904 ≤ (q : Int)
     ·
      have z : ((q : Int) / 4611686018427387904 != 0) = true := by simp; omega
      have HO := Lib.hid (show (false || decide (4611686018427387904 ≤ q)) = true from by simp; omega)
      clear hz
      by_cases hx : (d : Int) ≤ (R1 : Int)
      ·
       have eRd : (R1 : Int) - (d : Int) = (Rd : Int) := by have := hRd'.out; omega
       have LD := Lib.hid (LDy.out (by omega))
       rw [HO.out] at LD
       clear LDy LDn
       go_wp2
       go_round
       case rel => exact ⟨j, Q3, Rd, true, (j : Int) - 1, rfl, rfl, rfl, rfl, rfl, by omega, LD.out⟩
       case measure => first | (simp [intOf]; done) | (simp [intOf]; omega)
      ·
       have LD := Lib.hid (LDn.out (by omega))
       rw [HO.out] at LD
       clear LDy LDn
       go_wp2
       go_round
       case rel => exact ⟨j, Q2, R1, true, (j : Int) - 1, rfl, rfl, rfl, rfl, rfl, by omega, LD.out⟩
       case measure => first | (simp [intOf]; done) | (simp [intOf]; omega)
     ·
      have z : ((q : Int) / 4611686018427387904 != 0) = false := by simp; omega
      have HO := Lib.hid (show (false || decide (4611686018427387904 ≤ q)) = false from by simp; omega)
      clear hz
      by_cases hx : (d : Int) ≤ (R1 : Int)
      ·
       have eRd : (R1 : Int) - (d : Int) = (Rd : Int) := by have := hRd'.out; omega
       have LD := Lib.hid (LDy.out (by omega))
       rw [HO.out] at LD
       clear LDy LDn
       go_wp2
       go_round
       case rel => exact ⟨j, Q3, Rd, false, (j : Int) - 1, rfl, rfl, rfl, rfl, rfl, by omega, LD.out⟩
       case measure => first | (simp [intOf]; done) | (simp [intOf]; omega)
      ·
       have LD := Lib.hid (LDn.out (by omega))
       rw [HO.out] at LD
       clear LDy LDn
       go_wp2
       go_round
       case rel => exact ⟨j, Q2, R1, false, (j : Int) - 1, rfl, rfl, rfl, rfl, rfl, by omega, LD.out⟩
       case measure => first | (simp [intOf]; done) | (simp [intOf]; omega)
    ·
     have HO := Lib.hid (show (true || decide (4611686018427387904 ≤ q)) = true from rfl)
     by_cases hx : (d : Int) ≤ (R1 : Int)
     ·
      have eRd : (R1 : Int) - (d : Int) = (Rd : Int) := by have := hRd'.out; omega
      have LD := Lib.hid (LDy.out (by omega))
      rw [HO.out] at LD
      clear LDy LDn
      go_wp2
      go_round
      case rel => exact ⟨j, Q3, Rd, true, (j : Int) - 1, rfl, rfl, rfl, rfl, rfl, by omega, LD.out⟩
      case measure => first | (simp [intOf]; done) | (simp [intOf]; omega)
     ·
      have LD := Lib.hid (LDn.out (by omega))
      rw [HO.out] at LD
      clear LDy LDn
      go_wp2
      go_round
      case rel => exact ⟨j, Q2, R1, true, (j : Int) - 1, rfl, rfl, rfl, rfl, rfl, by omega, LD.out⟩
      case measure => first | (simp [intOf]; done) | (simp [intOf]; omega)
end Go.Proofs.YtbdichmkgcngbaaGreat
