/- The contract of the reference's MulDiv: the long division, walked. · Contracts of Mul and Div, of the program and of the reference. -/
import Derived.Test.YtbdichmkgcngbaaGreatMgC
import Derived.Test.YtbdichmkgcngbaaGreatMgB
namespace Go.Proofs.YtbdichmkgcngbaaGreat
open Go.RowKit

theorem i64_and63 (n : Int) : bits .and .i64 n 63 = n % 64 := by
  have h63 : (BitVec.ofInt 64 63).toNat = 2 ^ 6 - 1 := by decide
  have key : (BitVec.ofInt 64 n &&& BitVec.ofInt 64 63).toNat = (n % ((2 ^ 64 : Nat) : Int)).toNat % 2 ^ 6 := by
    rw [BitVec.toNat_and, BitVec.toNat_ofInt, h63, Nat.and_two_pow_sub_one_eq_mod]
  show IntKind.i64.wrap ((BitVec.ofInt 64 n &&& BitVec.ofInt 64 63).toNat : Nat) = n % 64
  rw [key, IntKind.wrap_i64]
  omega

set_option maxRecDepth 100000 in
set_option maxHeartbeats 4000000 in
theorem rmuldiv_any (a b c : Int) (ha1 : -9223372036854775808 ≤ a) (ha2 : a ≤ 9223372036854775807) (hb1 : -9223372036854775808 ≤ b) (hb2 : b ≤ 9223372036854775807) (hc1 : -9223372036854775808 ≤ c) (hc2 : c ≤ 9223372036854775807) (w : World) :
    Calls Tryz.prog 98 #[.int .i64 a, .int .i64 b, .int .i64 c] w fun e w' => e = mdE a b c ∧ w = w' := by
  by_cases hc0 : c = 0
  · subst hc0
    have E := Lib.hid (md_no (a := a) (b := b) (c := 0) (by simp [mdOk]))
    go_enter Tryz.func98, Tryz.ntmps98
    go_wp2
    go_ret2
    exact ⟨E.out, rfl⟩
  have hP1 : a.natAbs * b.natAbs ≤ 9223372036854775808 * 9223372036854775808 := Nat.mul_le_mul (by omega) (by omega)
  have t0 : (c == 0) = false := by simp [hc0]
  have sa' := rsize_any a ha1 ha2
  have sb' := rsize_any b hb1 hb2
  have sc' := rsize_any c hc1 hc2
  have sm' := times_any a.natAbs b.natAbs (by omega) (by omega)
  obtain ⟨A, hA⟩ : ∃ A, A = a.natAbs := ⟨_, rfl⟩
  obtain ⟨B, hB⟩ : ∃ B, B = b.natAbs := ⟨_, rfl⟩
  obtain ⟨d, hd⟩ : ∃ d, d = c.natAbs := ⟨_, rfl⟩
  obtain ⟨H, hH⟩ : ∃ H, H = A * B / 18446744073709551616 := ⟨_, rfl⟩
  obtain ⟨L, hL⟩ : ∃ L, L = A * B % 18446744073709551616 := ⟨_, rfl⟩
  rw [← hA] at sa' sm' hP1; rw [← hB] at sb' sm' hP1; rw [← hd] at sc'; rw [← hH, ← hL] at sm'
  have hPeq : H * 18446744073709551616 + L = A * B := by omega
  have hd0 : 1 ≤ d := by omega
  have hd63 : d ≤ 9223372036854775808 := by omega
  have hL1 : L < 18446744073709551616 := by omega
  have hH1 : H < 18446744073709551616 := by omega
  have sa := Lib.hid sa'; have sb := Lib.hid sb'; have sc := Lib.hid sc'; have sm := Lib.hid sm'
  have i1 : (H : Int) ≤ 18446744073709551615 := by omega
  have i2 : (L : Int) ≤ 18446744073709551615 := by omega
  have i3 : (d : Int) ≤ 9223372036854775808 := by omega
  have i4 : (1 : Int) ≤ (d : Int) := by omega
  have LD := Lib.hid (Ld.start (P := A * B) (d := d) (Nat.lt_of_le_of_lt hP1 (by decide)))
  have HP := Lib.hid hPeq
  have HB := Lib.hid (And.intro hd0 (And.intro hd63 (And.intro hL1 hH1)))
  have HE := Lib.hid (And.intro hA (And.intro hB hd))
  clear sa' sb' sc' sm' hP1 hc0 hH hL hPeq hd0 hd63 hL1 hH1 hA hB hd
  go_enter Tryz.func98, Tryz.ntmps98
  go_wp2_with fail
  refine (sa.out _).mono ?_; rintro e w1 ⟨rfl, rfl⟩
  go_wp2_with fail
  refine (sb.out _).mono ?_; rintro e w1 ⟨rfl, rfl⟩
  go_wp2_with fail
  refine (sm.out _).mono ?_; rintro e w1 ⟨rfl, rfl⟩
  go_wp2_with fail
  refine (sc.out _).mono ?_; rintro e w1 ⟨rfl, rfl⟩
  go_wp2
  go_loop [11, 12, 13, 14] (fun tq tr to ti => ∃ (k q r : Nat) (o : Bool) (i : Int), tq = .int .u64 q ∧ tr = .int .u64 r ∧ to = .bool o ∧ ti = .int .i64 i ∧ Hid (i = (k : Int) - 1) ∧ k ≤ 128 ∧ Hid (Ld (A * B) d k q r o)) (fun _ _ _ ti => (intOf ti + 1).toNat)
  case atStart => exact ⟨128, 0, 0, false, 127, rfl, rfl, rfl, rfl, rfl, by omega, LD⟩
  case round =>
    obtain ⟨k, q, r, o, i, rfl, rfl, rfl, rfl, hi, hk, hld⟩ := hrel
    rcases Nat.eq_zero_or_pos k with h0 | h0
    · subst h0
      obtain rfl : i = -1 := by have := hi.out; omega
      have q0 := hld.out.hq
      have r0 := hld.out.hr
      have o0 := hld.out.ho
      rw [Nat.pow_zero, Nat.div_one] at q0 r0 o0
      have hr1 : (r : Int) < (d : Int) := by have := (hld.out.bound HB.out.1).1; omega
      have hq1 : (q : Int) ≤ 18446744073709551615 := by have := (hld.out.bound HB.out.1).2; omega
      have hc0 : c ≠ 0 := by have := HE.out.2.2; have := HB.out.1; omega
      clear hk hi hld
      cases o
      · have hqq : A * B / d < 9223372036854775808 := by simpa using o0.symm
        have hq2 : q = A * B / d := by rw [q0]; exact Nat.mod_eq_of_lt (by omega)
        have j5 : (q : Int) ≤ 9223372036854775807 := by omega
        obtain ⟨hA, hB, hd⟩ := HE.out
        by_cases h2 : (d : Int) - (r : Int) ≤ (r : Int)
        · have hup := rq_up (P := A * B) (d := d) (by omega)
          rw [← hq2] at hup
          obtain ⟨q1, hqe⟩ : ∃ q1, q1 = q + 1 := ⟨_, rfl⟩
          have eQ : (q : Int) + 1 = (q1 : Int) := by omega
          have j0 : (q1 : Int) ≤ 9223372036854775808 := by omega
          by_cases h3 : (4611686018427387904 : Int) < (q1 : Int)
          · have E := Lib.hid (md_no (a := a) (b := b) (c := c) (mdOk_no (by rw [← hA, ← hB, ← hd]; omega)))
            clear hup hqe hA hB hd q0 r0 o0 hqq hq2 hc0
            go_wp2
            go_ret2
            exact ⟨E.out, rfl⟩
          have hok := mdOk_yes (a := a) (b := b) (c := c) hc0 (by rw [← hA, ← hB, ← hd]; omega)
          cases hn : (!((!(decide (a < 0) == decide (b < 0))) == decide (c < 0)))
          · have E := Lib.hid (md_pos (a := a) (b := b) (c := c) (q := (q1 : Int)) hok hn (by rw [← hA, ← hB, ← hd]; omega))
            clear hup hqe hA hB hd q0 r0 o0 hqq hq2 hc0 hok
            go_wp2
            go_ret2
            exact ⟨E.out, rfl⟩
          · have E := Lib.hid (md_neg (a := a) (b := b) (c := c) (q := (q1 : Int)) hok hn (by rw [← hA, ← hB, ← hd]; omega))
            clear hup hqe hA hB hd q0 r0 o0 hqq hq2 hc0 hok
            go_wp2
            go_ret2
            exact ⟨E.out, rfl⟩
        · have hup := rq_dn (P := A * B) (d := d) (by omega)
          rw [← hq2] at hup
          by_cases h3 : (4611686018427387904 : Int) < (q : Int)
          · have E := Lib.hid (md_no (a := a) (b := b) (c := c) (mdOk_no (by rw [← hA, ← hB, ← hd]; omega)))
            clear hup hA hB hd q0 r0 o0 hqq hq2 hc0
            go_wp2
            go_ret2
            exact ⟨E.out, rfl⟩
          have hok := mdOk_yes (a := a) (b := b) (c := c) hc0 (by rw [← hA, ← hB, ← hd]; omega)
          cases hn : (!((!(decide (a < 0) == decide (b < 0))) == decide (c < 0)))
          · have E := Lib.hid (md_pos (a := a) (b := b) (c := c) (q := (q : Int)) hok hn (by rw [← hA, ← hB, ← hd]; omega))
            clear hup hA hB hd q0 r0 o0 hqq hq2 hc0 hok
            go_wp2
            go_ret2
            exact ⟨E.out, rfl⟩
          · have E := Lib.hid (md_neg (a := a) (b := b) (c := c) (q := (q : Int)) hok hn (by rw [← hA, ← hB, ← hd]; omega))
            clear hup hA hB hd q0 r0 o0 hqq hq2 hc0 hok
            go_wp2
            go_ret2
            exact ⟨E.out, rfl⟩
      · have hqq : 9223372036854775808 ≤ A * B / d := by simpa using o0.symm
        have E := Lib.hid (md_no (a := a) (b := b) (c := c) (mdOk_no (by have := rq_ge (A * B) d; rw [← HE.out.1, ← HE.out.2.1, ← HE.out.2.2]; omega)))
        clear q0 r0 o0 hqq hc0
        by_cases h2 : (d : Int) - (r : Int) ≤ (r : Int)
        · go_wp2
          go_ret2
          exact ⟨E.out, rfl⟩
        · go_wp2
          go_ret2
          exact ⟨E.out, rfl⟩
    · obtain ⟨j, rfl⟩ : ∃ j, k = j + 1 := ⟨k - 1, by omega⟩
      obtain rfl : i = (j : Int) := by have := hi.out; omega
      have hj1 : (j : Int) ≤ 127 := by omega
      clear hk h0
      obtain ⟨m, hm⟩ : ∃ m, m = j % 64 := ⟨_, rfl⟩
      obtain ⟨X, hX⟩ : ∃ X, X = L / 2 ^ m := ⟨_, rfl⟩
      have a1 : bits .and .i64 (j : Int) 63 = (m : Int) := by rw [i64_and63, hm]; omega
      have x1 : (L : Int) / 2 ^ m = (X : Int) := by rw [hX, Int.natCast_ediv, Int.natCast_pow]; rfl
      have hXb : X < 18446744073709551616 := Nat.lt_of_le_of_lt (by rw [hX]; exact Nat.div_le_self _ _) HB.out.2.2.1
      have m1 : (m : Int) ≤ 63 := by omega
      by_cases hj : (64 : Int) ≤ (j : Int)
      · obtain ⟨Y, hY⟩ : ∃ Y, Y = H / 2 ^ (j - 64) := ⟨_, rfl⟩
        have y1 : (H : Int) / 2 ^ (j - 64) = (Y : Int) := by rw [hY, Int.natCast_ediv, Int.natCast_pow]; rfl
        have hYb : Y < 18446744073709551616 := Nat.lt_of_le_of_lt (by rw [hY]; exact Nat.div_le_self _ _) HB.out.2.2.2
        have y2 := and_one Y hYb
        obtain ⟨b, hb⟩ : ∃ b, b = Y % 2 := ⟨_, rfl⟩
        rw [← hb] at y2
        have HBt := Lib.hid (show A * B / 2 ^ j % 2 = b from by rw [← HP.out, bit_hi HB.out.2.2.1 (by omega), hb, hY])
        clear hY hb hYb hX hm hXb
        have hr1 : (r : Int) < (d : Int) := by have := (hld.out.bound HB.out.1).1; omega
        have hq1 : (q : Int) ≤ 18446744073709551615 := by have := (hld.out.bound HB.out.1).2; omega
        have b2 : b < 2 := by rw [← HBt.out]; exact Nat.mod_lt _ (by omega)
        have t1 : (r : Int) / 9223372036854775808 = 0 := by omega
        obtain ⟨R2, hR2⟩ : ∃ x, x = 2 * r := ⟨_, rfl⟩
        have s1 : IntKind.u64.wrap ((r : Int) * 2) = (R2 : Int) := by rw [IntKind.wrap_u64]; omega
        obtain ⟨R1, hR1⟩ : ∃ x, x = 2 * r + b := ⟨_, rfl⟩
        have s2 : bits .or .u64 (R2 : Int) (b : Int) = (R1 : Int) := by rw [hR2, hR1]; exact or_bit (by omega) b2
        obtain ⟨Q2, hQ2⟩ : ∃ x, x = q * 2 % 18446744073709551616 := ⟨_, rfl⟩
        have u1 : IntKind.u64.wrap ((q : Int) * 2) = (Q2 : Int) := by rw [IntKind.wrap_u64]; omega
        obtain ⟨Q3, hQ3⟩ : ∃ x, x = Q2 + 1 := ⟨_, rfl⟩
        have u2 : bits .or .u64 (Q2 : Int) 1 = (Q3 : Int) := by
          have e : Q2 = 2 * (Q2 / 2) := by omega
          have := or_bit (x := Q2 / 2) (b := 1) (by omega) (by omega)
          rw [← e] at this
          rw [hQ3]; exact this
        obtain ⟨Rd, hRd⟩ : ∃ x, x = R1 - d := ⟨_, rfl⟩
        have LDy := Lib.hid (fun hx => hld.out.yes (P := A * B) HB.out.1 hx)
        have LDn := Lib.hid (fun hx => hld.out.no (P := A * B) HB.out.1 hx)
        rw [HBt.out, ← hQ2, ← hQ3, ← hR1, ← hRd] at LDy
        rw [HBt.out, ← hQ2, ← hR1] at LDn
        have hRd' := Lib.hid hRd
        have j2 : (R1 : Int) ≤ 18446744073709551615 := by omega
        clear hR2 hR1 hQ2 hQ3 hRd b2
        cases o
        · by_cases hz : 4611686018427387904 ≤ (q : Int)
          · have z : ((q : Int) / 4611686018427387904 != 0) = true := by simp; omega
            have HO := Lib.hid (show (false || decide (4611686018427387904 ≤ q)) = true from by simp; omega)
            clear hz
            by_cases hx : (d : Int) ≤ (R1 : Int)
            · have eRd : (R1 : Int) - (d : Int) = (Rd : Int) := by have := hRd'.out; omega
              have LD := Lib.hid (LDy.out (by omega))
              rw [HO.out] at LD
              clear LDy LDn
              go_wp2
              go_round
              case rel => exact ⟨j, Q3, Rd, true, (j : Int) - 1, rfl, rfl, rfl, rfl, rfl, by omega, LD.out⟩
              case measure => first | (simp [intOf]; done) | (simp [intOf]; omega)
            · have LD := Lib.hid (LDn.out (by omega))
              rw [HO.out] at LD
              clear LDy LDn
              go_wp2
              go_round
              case rel => exact ⟨j, Q2, R1, true, (j : Int) - 1, rfl, rfl, rfl, rfl, rfl, by omega, LD.out⟩
              case measure => first | (simp [intOf]; done) | (simp [intOf]; omega)
          · have z : ((q : Int) / 4611686018427387904 != 0) = false := by simp; omega
            have HO := Lib.hid (show (false || decide (4611686018427387904 ≤ q)) = false from by simp; omega)
            clear hz
            by_cases hx : (d : Int) ≤ (R1 : Int)
            · have eRd : (R1 : Int) - (d : Int) = (Rd : Int) := by have := hRd'.out; omega
              have LD := Lib.hid (LDy.out (by omega))
              rw [HO.out] at LD
              clear LDy LDn
              go_wp2
              go_round
              case rel => exact ⟨j, Q3, Rd, false, (j : Int) - 1, rfl, rfl, rfl, rfl, rfl, by omega, LD.out⟩
              case measure => first | (simp [intOf]; done) | (simp [intOf]; omega)
            · have LD := Lib.hid (LDn.out (by omega))
              rw [HO.out] at LD
              clear LDy LDn
              go_wp2
              go_round
              case rel => exact ⟨j, Q2, R1, false, (j : Int) - 1, rfl, rfl, rfl, rfl, rfl, by omega, LD.out⟩
              case measure => first | (simp [intOf]; done) | (simp [intOf]; omega)
        · have HO := Lib.hid (show (true || decide (4611686018427387904 ≤ q)) = true from rfl)
          by_cases hx : (d : Int) ≤ (R1 : Int)
          · have eRd : (R1 : Int) - (d : Int) = (Rd : Int) := by have := hRd'.out; omega
            have LD := Lib.hid (LDy.out (by omega))
            rw [HO.out] at LD
            clear LDy LDn
            go_wp2
            go_round
            case rel => exact ⟨j, Q3, Rd, true, (j : Int) - 1, rfl, rfl, rfl, rfl, rfl, by omega, LD.out⟩
            case measure => first | (simp [intOf]; done) | (simp [intOf]; omega)
          · have LD := Lib.hid (LDn.out (by omega))
            rw [HO.out] at LD
            clear LDy LDn
            go_wp2
            go_round
            case rel => exact ⟨j, Q2, R1, true, (j : Int) - 1, rfl, rfl, rfl, rfl, rfl, by omega, LD.out⟩
            case measure => first | (simp [intOf]; done) | (simp [intOf]; omega)
      · have y2 := and_one X hXb
        obtain ⟨b, hb⟩ : ∃ b, b = X % 2 := ⟨_, rfl⟩
        rw [← hb] at y2
        have HBt := Lib.hid (show A * B / 2 ^ j % 2 = b from by rw [← HP.out, bit_lo (by omega), hb, hX, show m = j from by omega])
        clear hb hX hm hXb
        have hr1 : (r : Int) < (d : Int) := by have := (hld.out.bound HB.out.1).1; omega
        have hq1 : (q : Int) ≤ 18446744073709551615 := by have := (hld.out.bound HB.out.1).2; omega
        have b2 : b < 2 := by rw [← HBt.out]; exact Nat.mod_lt _ (by omega)
        have t1 : (r : Int) / 9223372036854775808 = 0 := by omega
        obtain ⟨R2, hR2⟩ : ∃ x, x = 2 * r := ⟨_, rfl⟩
        have s1 : IntKind.u64.wrap ((r : Int) * 2) = (R2 : Int) := by rw [IntKind.wrap_u64]; omega
        obtain ⟨R1, hR1⟩ : ∃ x, x = 2 * r + b := ⟨_, rfl⟩
        have s2 : bits .or .u64 (R2 : Int) (b : Int) = (R1 : Int) := by rw [hR2, hR1]; exact or_bit (by omega) b2
        obtain ⟨Q2, hQ2⟩ : ∃ x, x = q * 2 % 18446744073709551616 := ⟨_, rfl⟩
        have u1 : IntKind.u64.wrap ((q : Int) * 2) = (Q2 : Int) := by rw [IntKind.wrap_u64]; omega
        obtain ⟨Q3, hQ3⟩ : ∃ x, x = Q2 + 1 := ⟨_, rfl⟩
        have u2 : bits .or .u64 (Q2 : Int) 1 = (Q3 : Int) := by
          have e : Q2 = 2 * (Q2 / 2) := by omega
          have := or_bit (x := Q2 / 2) (b := 1) (by omega) (by omega)
          rw [← e] at this
          rw [hQ3]; exact this
        obtain ⟨Rd, hRd⟩ : ∃ x, x = R1 - d := ⟨_, rfl⟩
        have LDy := Lib.hid (fun hx => hld.out.yes (P := A * B) HB.out.1 hx)
        have LDn := Lib.hid (fun hx => hld.out.no (P := A * B) HB.out.1 hx)
        rw [HBt.out, ← hQ2, ← hQ3, ← hR1, ← hRd] at LDy
        rw [HBt.out, ← hQ2, ← hR1] at LDn
        have hRd' := Lib.hid hRd
        have j2 : (R1 : Int) ≤ 18446744073709551615 := by omega
        clear hR2 hR1 hQ2 hQ3 hRd b2
        cases o
        · by_cases hz : 4611686018427387904 ≤ (q : Int)
          · have z : ((q : Int) / 4611686018427387904 != 0) = true := by simp; omega
            have HO := Lib.hid (show (false || decide (4611686018427387904 ≤ q)) = true from by simp; omega)
            clear hz
            by_cases hx : (d : Int) ≤ (R1 : Int)
            · have eRd : (R1 : Int) - (d : Int) = (Rd : Int) := by have := hRd'.out; omega
              have LD := Lib.hid (LDy.out (by omega))
              rw [HO.out] at LD
              clear LDy LDn
              go_wp2
              go_round
              case rel => exact ⟨j, Q3, Rd, true, (j : Int) - 1, rfl, rfl, rfl, rfl, rfl, by omega, LD.out⟩
              case measure => first | (simp [intOf]; done) | (simp [intOf]; omega)
            · have LD := Lib.hid (LDn.out (by omega))
              rw [HO.out] at LD
              clear LDy LDn
              go_wp2
              go_round
              case rel => exact ⟨j, Q2, R1, true, (j : Int) - 1, rfl, rfl, rfl, rfl, rfl, by omega, LD.out⟩
              case measure => first | (simp [intOf]; done) | (simp [intOf]; omega)
          · have z : ((q : Int) / 4611686018427387904 != 0) = false := by simp; omega
            have HO := Lib.hid (show (false || decide (4611686018427387904 ≤ q)) = false from by simp; omega)
            clear hz
            by_cases hx : (d : Int) ≤ (R1 : Int)
            · have eRd : (R1 : Int) - (d : Int) = (Rd : Int) := by have := hRd'.out; omega
              have LD := Lib.hid (LDy.out (by omega))
              rw [HO.out] at LD
              clear LDy LDn
              go_wp2
              go_round
              case rel => exact ⟨j, Q3, Rd, false, (j : Int) - 1, rfl, rfl, rfl, rfl, rfl, by omega, LD.out⟩
              case measure => first | (simp [intOf]; done) | (simp [intOf]; omega)
            · have LD := Lib.hid (LDn.out (by omega))
              rw [HO.out] at LD
              clear LDy LDn
              go_wp2
              go_round
              case rel => exact ⟨j, Q2, R1, false, (j : Int) - 1, rfl, rfl, rfl, rfl, rfl, by omega, LD.out⟩
              case measure => first | (simp [intOf]; done) | (simp [intOf]; omega)
        · have HO := Lib.hid (show (true || decide (4611686018427387904 ≤ q)) = true from rfl)
          by_cases hx : (d : Int) ≤ (R1 : Int)
          · have eRd : (R1 : Int) - (d : Int) = (Rd : Int) := by have := hRd'.out; omega
            have LD := Lib.hid (LDy.out (by omega))
            rw [HO.out] at LD
            clear LDy LDn
            go_wp2
            go_round
            case rel => exact ⟨j, Q3, Rd, true, (j : Int) - 1, rfl, rfl, rfl, rfl, rfl, by omega, LD.out⟩
            case measure => first | (simp [intOf]; done) | (simp [intOf]; omega)
          · have LD := Lib.hid (LDn.out (by omega))
            rw [HO.out] at LD
            clear LDy LDn
            go_wp2
            go_round
            case rel => exact ⟨j, Q2, R1, true, (j : Int) - 1, rfl, rfl, rfl, rfl, rfl, by omega, LD.out⟩
            case measure => first | (simp [intOf]; done) | (simp [intOf]; omega)
end Go.Proofs.YtbdichmkgcngbaaGreat
namespace Go.Proofs.YtbdichmkgcngbaaGreat
open Go.RowKit

def mdV (a b c : Int) : Vl := bif mdOk a b c then ofV (mdN a b c) else ⟨false, 0⟩
def mulV (a b : Vl) : Vl := bif knB a && knB b then mdV a.n b.n 1000000 else ⟨false, 0⟩
def divV (a b : Vl) : Vl := bif knB a && knB b then mdV a.n 1000000 b.n else ⟨false, 0⟩

theorem muldiv_at (a b c : Int) (ha1 : -9223372036854775808 ≤ a) (ha2 : a ≤ 9223372036854775807) (hb1 : -9223372036854775808 ≤ b) (hb2 : b ≤ 9223372036854775807) (hc1 : -9223372036854775808 ≤ c) (hc2 : c ≤ 9223372036854775807) (w : World) :
    Calls Tryz.prog 136 #[.int .i64 a, .int .i64 b, .int .i64 c] w fun e w' => e = .returned (.tuple #[.int .i64 (mdN a b c), .bool (mdOk a b c)]) ∧ Gr w w' :=
  (muldiv_any a b c ha1 ha2 hb1 hb2 hc1 hc2 w).mono fun _ _ h => h
theorem rmuldiv_at (a b c : Int) (ha1 : -9223372036854775808 ≤ a) (ha2 : a ≤ 9223372036854775807) (hb1 : -9223372036854775808 ≤ b) (hb2 : b ≤ 9223372036854775807) (hc1 : -9223372036854775808 ≤ c) (hc2 : c ≤ 9223372036854775807) (w : World) :
    Calls Tryz.prog 98 #[.int .i64 a, .int .i64 b, .int .i64 c] w fun e w' => e = .returned (.tuple #[.int .i64 (mdN a b c), .bool (mdOk a b c)]) ∧ Gr w w' :=
  (rmuldiv_any a b c ha1 ha2 hb1 hb2 hc1 hc2 w).mono fun _ _ ⟨he, hw⟩ => ⟨he, hw ▸ Gr.refl _⟩

set_option maxHeartbeats 400000 in
theorem val_any (n : Int) (ok : Bool) (w : World) :
    Calls Tryz.prog 135 #[.int .i64 n, .bool ok] w fun e w' => e = .returned (.agg #[.bool (bif ok then ofV n else ⟨false, 0⟩).ok, .int .i64 (bif ok then ofV n else ⟨false, 0⟩).n]) ∧ Gr w w' := by
  cases ok
  · rw [cond_false]
    go_enter Tryz.func135, Tryz.ntmps135
    go_wp2
    exact bodyPost_ret (v := .agg #[.bool false, .int .i64 0]) (by simp [results, Tryz.results135, go_sem]) rfl ⟨rfl, (by repeat (first | exact Gr.refl _ | refine Gr.alloc ?_ _ | refine Gr.drew ?_ | refine Gr.setCell ?_ (by first | (simp; done) | (simp; omega) | omega) _ | refine Gr.trans ?_ (by assumption)))⟩
  · rw [cond_true]
    go_enter Tryz.func135, Tryz.ntmps135
    go_wp2_with fail
    refine (of_any n _).mono ?_; rintro e w1 ⟨rfl, hg⟩; obtain ⟨hc, hf⟩ := hg.cells; have hz := hg.size; (try simp at hz); have z0 : w.heap.size < w1.heap.size := (by omega)
    go_wp2
    have q0 : w1.cell? ⟨w.heap.size, 0, none⟩ = some (.bool false) := by go_simp
    have q1 : w1.cell? ⟨w.heap.size, 1, none⟩ = some (.int .i64 0) := by go_simp
    exact bodyPost_ret (v := .agg #[.bool (ofV n).ok, .int .i64 (ofV n).n]) (by simp [results, Tryz.results135, go_sem, *]) rfl ⟨rfl, (by repeat (first | exact Gr.refl _ | refine Gr.alloc ?_ _ | refine Gr.drew ?_ | refine Gr.setCell ?_ (by first | (simp; done) | (simp; omega) | omega) _ | refine Gr.trans ?_ (by assumption)))⟩
set_option maxHeartbeats 800000 in
theorem mul_any (a b : Vl) (w : World) :
    Calls Tryz.prog 117 #[.agg #[.bool a.ok, .int .i64 a.n], .agg #[.bool b.ok, .int .i64 b.n]] w fun e w' => e = .returned (.agg #[.bool (mulV a b).ok, .int .i64 (mulV a b).n]) ∧ Gr w w' := by
  cases ha : knB a
  · have hv : mulV a b = ⟨false, 0⟩ := by simp [mulV, ha]
    rw [hv]; clear hv
    go_enter Tryz.func117, Tryz.ntmps117
    go_wp2_with fail
    refine (kn_any a _).mono ?_; rintro e w1 ⟨rfl, hg⟩; obtain ⟨hc, hf⟩ := hg.cells; have hz := hg.size; (try simp at hz); have z0 : w.heap.size < w1.heap.size := (by omega); have z1 : w.heap.size + 1 < w1.heap.size := (by omega); have z2 : w.heap.size + 1 + 1 < w1.heap.size := (by omega)
    go_wp2
    have q0 : w1.cell? ⟨w.heap.size + 1 + 1, 0, none⟩ = some (.bool false) := by go_simp
    have q1 : w1.cell? ⟨w.heap.size + 1 + 1, 1, none⟩ = some (.int .i64 0) := by go_simp
    exact bodyPost_ret (v := .agg #[.bool false, .int .i64 0]) (by simp [results, Tryz.results117, go_sem, *]) rfl ⟨rfl, (by repeat (first | exact Gr.refl _ | refine Gr.alloc ?_ _ | refine Gr.drew ?_ | refine Gr.setCell ?_ (by first | (simp; done) | (simp; omega) | omega) _ | refine Gr.trans ?_ (by assumption)))⟩
  cases hb : knB b
  · have hv : mulV a b = ⟨false, 0⟩ := by simp [mulV, hb]
    rw [hv]; clear hv
    go_enter Tryz.func117, Tryz.ntmps117
    go_wp2_with fail
    refine (kn_any a _).mono ?_; rintro e w1 ⟨rfl, hg⟩; obtain ⟨hc, hf⟩ := hg.cells; have hz := hg.size; (try simp at hz); have z0 : w.heap.size < w1.heap.size := (by omega); have z1 : w.heap.size + 1 < w1.heap.size := (by omega); have z2 : w.heap.size + 1 + 1 < w1.heap.size := (by omega)
    go_wp2_with fail
    refine (kn_any b _).mono ?_; rintro e w1 ⟨rfl, hg⟩; obtain ⟨hc, hf⟩ := hg.cells; have hz := hg.size; (try simp at hz); have z0 : w.heap.size < w1.heap.size := (by omega); have z1 : w.heap.size + 1 < w1.heap.size := (by omega); have z2 : w.heap.size + 1 + 1 < w1.heap.size := (by omega)
    go_wp2
    have q0 : w1.cell? ⟨w.heap.size + 1 + 1, 0, none⟩ = some (.bool false) := by go_simp
    have q1 : w1.cell? ⟨w.heap.size + 1 + 1, 1, none⟩ = some (.int .i64 0) := by go_simp
    exact bodyPost_ret (v := .agg #[.bool false, .int .i64 0]) (by simp [results, Tryz.results117, go_sem, *]) rfl ⟨rfl, (by repeat (first | exact Gr.refl _ | refine Gr.alloc ?_ _ | refine Gr.drew ?_ | refine Gr.setCell ?_ (by first | (simp; done) | (simp; omega) | omega) _ | refine Gr.trans ?_ (by assumption)))⟩
  have hv : mulV a b = mdV a.n b.n 1000000 := by simp [mulV, ha, hb]
  rw [hv]; clear hv
  have a1 := knB_lo ha
  have a2 := knB_hi ha
  have b1 := knB_lo hb
  have b2 := knB_hi hb
  have M := Lib.hid (muldiv_at a.n b.n 1000000 (by omega) (by omega) (by omega) (by omega) (by omega) (by omega))
  go_enter Tryz.func117, Tryz.ntmps117
  go_wp2_with fail
  refine (kn_any a _).mono ?_; rintro e w1 ⟨rfl, hg⟩; obtain ⟨hc, hf⟩ := hg.cells; have hz := hg.size; (try simp at hz); have z0 : w.heap.size < w1.heap.size := (by omega); have z1 : w.heap.size + 1 < w1.heap.size := (by omega); have z2 : w.heap.size + 1 + 1 < w1.heap.size := (by omega)
  go_wp2_with fail
  refine (kn_any b _).mono ?_; rintro e w1 ⟨rfl, hg⟩; obtain ⟨hc, hf⟩ := hg.cells; have hz := hg.size; (try simp at hz); have z0 : w.heap.size < w1.heap.size := (by omega); have z1 : w.heap.size + 1 < w1.heap.size := (by omega); have z2 : w.heap.size + 1 + 1 < w1.heap.size := (by omega)
  go_wp2_with fail
  refine (M.out _).mono ?_; rintro e w1 ⟨rfl, hg⟩; obtain ⟨hc, hf⟩ := hg.cells; have hz := hg.size; (try simp at hz); have z0 : w.heap.size < w1.heap.size := (by omega); have z1 : w.heap.size + 1 < w1.heap.size := (by omega); have z2 : w.heap.size + 1 + 1 < w1.heap.size := (by omega)
  go_wp2_with fail
  refine (val_any (mdN a.n b.n 1000000) (mdOk a.n b.n 1000000) _).mono ?_; rintro e w1 ⟨rfl, hg⟩; obtain ⟨hc, hf⟩ := hg.cells; have hz := hg.size; (try simp at hz); have z0 : w.heap.size < w1.heap.size := (by omega); have z1 : w.heap.size + 1 < w1.heap.size := (by omega); have z2 : w.heap.size + 1 + 1 < w1.heap.size := (by omega)
  go_wp2
  have q0 : w1.cell? ⟨w.heap.size + 1 + 1, 0, none⟩ = some (.bool false) := by go_simp
  have q1 : w1.cell? ⟨w.heap.size + 1 + 1, 1, none⟩ = some (.int .i64 0) := by go_simp
  exact bodyPost_ret (v := .agg #[.bool (mdV a.n b.n 1000000).ok, .int .i64 (mdV a.n b.n 1000000).n]) (by simp [results, Tryz.results117, go_sem, mdV, *]) rfl ⟨rfl, (by repeat (first | exact Gr.refl _ | refine Gr.alloc ?_ _ | refine Gr.drew ?_ | refine Gr.setCell ?_ (by first | (simp; done) | (simp; omega) | omega) _ | refine Gr.trans ?_ (by assumption)))⟩
set_option maxHeartbeats 800000 in
theorem div_any (a b : Vl) (w : World) :
    Calls Tryz.prog 120 #[.agg #[.bool a.ok, .int .i64 a.n], .agg #[.bool b.ok, .int .i64 b.n]] w fun e w' => e = .returned (.agg #[.bool (divV a b).ok, .int .i64 (divV a b).n]) ∧ Gr w w' := by
  cases ha : knB a
  · have hv : divV a b = ⟨false, 0⟩ := by simp [divV, ha]
    rw [hv]; clear hv
    go_enter Tryz.func120, Tryz.ntmps120
    go_wp2_with fail
    refine (kn_any a _).mono ?_; rintro e w1 ⟨rfl, hg⟩; obtain ⟨hc, hf⟩ := hg.cells; have hz := hg.size; (try simp at hz); have z0 : w.heap.size < w1.heap.size := (by omega); have z1 : w.heap.size + 1 < w1.heap.size := (by omega); have z2 : w.heap.size + 1 + 1 < w1.heap.size := (by omega)
    go_wp2
    have q0 : w1.cell? ⟨w.heap.size + 1 + 1, 0, none⟩ = some (.bool false) := by go_simp
    have q1 : w1.cell? ⟨w.heap.size + 1 + 1, 1, none⟩ = some (.int .i64 0) := by go_simp
    exact bodyPost_ret (v := .agg #[.bool false, .int .i64 0]) (by simp [results, Tryz.results120, go_sem, *]) rfl ⟨rfl, (by repeat (first | exact Gr.refl _ | refine Gr.alloc ?_ _ | refine Gr.drew ?_ | refine Gr.setCell ?_ (by first | (simp; done) | (simp; omega) | omega) _ | refine Gr.trans ?_ (by assumption)))⟩
  cases hb : knB b
  · have hv : divV a b = ⟨false, 0⟩ := by simp [divV, hb]
    rw [hv]; clear hv
    go_enter Tryz.func120, Tryz.ntmps120
    go_wp2_with fail
    refine (kn_any a _).mono ?_; rintro e w1 ⟨rfl, hg⟩; obtain ⟨hc, hf⟩ := hg.cells; have hz := hg.size; (try simp at hz); have z0 : w.heap.size < w1.heap.size := (by omega); have z1 : w.heap.size + 1 < w1.heap.size := (by omega); have z2 : w.heap.size + 1 + 1 < w1.heap.size := (by omega)
    go_wp2_with fail
    refine (kn_any b _).mono ?_; rintro e w1 ⟨rfl, hg⟩; obtain ⟨hc, hf⟩ := hg.cells; have hz := hg.size; (try simp at hz); have z0 : w.heap.size < w1.heap.size := (by omega); have z1 : w.heap.size + 1 < w1.heap.size := (by omega); have z2 : w.heap.size + 1 + 1 < w1.heap.size := (by omega)
    go_wp2
    have q0 : w1.cell? ⟨w.heap.size + 1 + 1, 0, none⟩ = some (.bool false) := by go_simp
    have q1 : w1.cell? ⟨w.heap.size + 1 + 1, 1, none⟩ = some (.int .i64 0) := by go_simp
    exact bodyPost_ret (v := .agg #[.bool false, .int .i64 0]) (by simp [results, Tryz.results120, go_sem, *]) rfl ⟨rfl, (by repeat (first | exact Gr.refl _ | refine Gr.alloc ?_ _ | refine Gr.drew ?_ | refine Gr.setCell ?_ (by first | (simp; done) | (simp; omega) | omega) _ | refine Gr.trans ?_ (by assumption)))⟩
  have hv : divV a b = mdV a.n 1000000 b.n := by simp [divV, ha, hb]
  rw [hv]; clear hv
  have a1 := knB_lo ha
  have a2 := knB_hi ha
  have b1 := knB_lo hb
  have b2 := knB_hi hb
  have M := Lib.hid (muldiv_at a.n 1000000 b.n (by omega) (by omega) (by omega) (by omega) (by omega) (by omega))
  go_enter Tryz.func120, Tryz.ntmps120
  go_wp2_with fail
  refine (kn_any a _).mono ?_; rintro e w1 ⟨rfl, hg⟩; obtain ⟨hc, hf⟩ := hg.cells; have hz := hg.size; (try simp at hz); have z0 : w.heap.size < w1.heap.size := (by omega); have z1 : w.heap.size + 1 < w1.heap.size := (by omega); have z2 : w.heap.size + 1 + 1 < w1.heap.size := (by omega)
  go_wp2_with fail
  refine (kn_any b _).mono ?_; rintro e w1 ⟨rfl, hg⟩; obtain ⟨hc, hf⟩ := hg.cells; have hz := hg.size; (try simp at hz); have z0 : w.heap.size < w1.heap.size := (by omega); have z1 : w.heap.size + 1 < w1.heap.size := (by omega); have z2 : w.heap.size + 1 + 1 < w1.heap.size := (by omega)
  go_wp2_with fail
  refine (M.out _).mono ?_; rintro e w1 ⟨rfl, hg⟩; obtain ⟨hc, hf⟩ := hg.cells; have hz := hg.size; (try simp at hz); have z0 : w.heap.size < w1.heap.size := (by omega); have z1 : w.heap.size + 1 < w1.heap.size := (by omega); have z2 : w.heap.size + 1 + 1 < w1.heap.size := (by omega)
  go_wp2_with fail
  refine (val_any (mdN a.n 1000000 b.n) (mdOk a.n 1000000 b.n) _).mono ?_; rintro e w1 ⟨rfl, hg⟩; obtain ⟨hc, hf⟩ := hg.cells; have hz := hg.size; (try simp at hz); have z0 : w.heap.size < w1.heap.size := (by omega); have z1 : w.heap.size + 1 < w1.heap.size := (by omega); have z2 : w.heap.size + 1 + 1 < w1.heap.size := (by omega)
  go_wp2
  have q0 : w1.cell? ⟨w.heap.size + 1 + 1, 0, none⟩ = some (.bool false) := by go_simp
  have q1 : w1.cell? ⟨w.heap.size + 1 + 1, 1, none⟩ = some (.int .i64 0) := by go_simp
  exact bodyPost_ret (v := .agg #[.bool (mdV a.n 1000000 b.n).ok, .int .i64 (mdV a.n 1000000 b.n).n]) (by simp [results, Tryz.results120, go_sem, mdV, *]) rfl ⟨rfl, (by repeat (first | exact Gr.refl _ | refine Gr.alloc ?_ _ | refine Gr.drew ?_ | refine Gr.setCell ?_ (by first | (simp; done) | (simp; omega) | omega) _ | refine Gr.trans ?_ (by assumption)))⟩
set_option maxHeartbeats 800000 in
theorem rmul_any (a b : Vl) (w : World) :
    Calls Tryz.prog 71 #[.agg #[.bool a.ok, .int .i64 a.n], .agg #[.bool b.ok, .int .i64 b.n]] w fun e w' => e = .returned (.agg #[.bool (mulV a b).ok, .int .i64 (mulV a b).n]) ∧ Gr w w' := by
  cases hab : (knB a && knB b)
  · have hv : mulV a b = ⟨false, 0⟩ := by simp [mulV, hab]
    rw [hv]; clear hv
    go_enter Tryz.func71, Tryz.ntmps71
    go_wp2_with fail
    refine (two_any a b _).mono ?_; rintro e w1 ⟨rfl, hg⟩; obtain ⟨hc, hf⟩ := hg.cells; have hz := hg.size; (try simp at hz); have z0 : w.heap.size < w1.heap.size := (by omega); have z1 : w.heap.size + 1 < w1.heap.size := (by omega); have z2 : w.heap.size + 1 + 1 < w1.heap.size := (by omega)
    go_wp2
    have q0 : w1.cell? ⟨w.heap.size + 1 + 1, 0, none⟩ = some (.bool false) := by go_simp
    have q1 : w1.cell? ⟨w.heap.size + 1 + 1, 1, none⟩ = some (.int .i64 0) := by go_simp
    exact bodyPost_ret (v := .agg #[.bool false, .int .i64 0]) (by simp [results, Tryz.results71, go_sem, *]) rfl ⟨rfl, (by repeat (first | exact Gr.refl _ | refine Gr.alloc ?_ _ | refine Gr.drew ?_ | refine Gr.setCell ?_ (by first | (simp; done) | (simp; omega) | omega) _ | refine Gr.trans ?_ (by assumption)))⟩
  have hv : mulV a b = mdV a.n b.n 1000000 := by simp [mulV, hab]
  rw [hv]; clear hv
  have ha : knB a = true := by simp at hab; exact hab.1
  have hb : knB b = true := by simp at hab; exact hab.2
  have a1 := knB_lo ha
  have a2 := knB_hi ha
  have b1 := knB_lo hb
  have b2 := knB_hi hb
  have M := Lib.hid (rmuldiv_at a.n b.n 1000000 (by omega) (by omega) (by omega) (by omega) (by omega) (by omega))
  cases hok : mdOk a.n b.n 1000000
  · have hv : mdV a.n b.n 1000000 = ⟨false, 0⟩ := by simp [mdV, hok]
    rw [hv]; clear hv
    go_enter Tryz.func71, Tryz.ntmps71
    go_wp2_with fail
    refine (two_any a b _).mono ?_; rintro e w1 ⟨rfl, hg⟩; obtain ⟨hc, hf⟩ := hg.cells; have hz := hg.size; (try simp at hz); have z0 : w.heap.size < w1.heap.size := (by omega); have z1 : w.heap.size + 1 < w1.heap.size := (by omega); have z2 : w.heap.size + 1 + 1 < w1.heap.size := (by omega)
    go_wp2_with fail
    refine (M.out _).mono ?_; rintro e w1 ⟨rfl, hg⟩; obtain ⟨hc, hf⟩ := hg.cells; have hz := hg.size; (try simp at hz); have z0 : w.heap.size < w1.heap.size := (by omega); have z1 : w.heap.size + 1 < w1.heap.size := (by omega); have z2 : w.heap.size + 1 + 1 < w1.heap.size := (by omega)
    go_wp2
    have q0 : w1.cell? ⟨w.heap.size + 1 + 1, 0, none⟩ = some (.bool false) := by go_simp
    have q1 : w1.cell? ⟨w.heap.size + 1 + 1, 1, none⟩ = some (.int .i64 0) := by go_simp
    exact bodyPost_ret (v := .agg #[.bool false, .int .i64 0]) (by simp [results, Tryz.results71, go_sem, *]) rfl ⟨rfl, (by repeat (first | exact Gr.refl _ | refine Gr.alloc ?_ _ | refine Gr.drew ?_ | refine Gr.setCell ?_ (by first | (simp; done) | (simp; omega) | omega) _ | refine Gr.trans ?_ (by assumption)))⟩
  · have hv : mdV a.n b.n 1000000 = ofV (mdN a.n b.n 1000000) := by simp [mdV, hok]
    rw [hv]; clear hv
    go_enter Tryz.func71, Tryz.ntmps71
    go_wp2_with fail
    refine (two_any a b _).mono ?_; rintro e w1 ⟨rfl, hg⟩; obtain ⟨hc, hf⟩ := hg.cells; have hz := hg.size; (try simp at hz); have z0 : w.heap.size < w1.heap.size := (by omega); have z1 : w.heap.size + 1 < w1.heap.size := (by omega); have z2 : w.heap.size + 1 + 1 < w1.heap.size := (by omega)
    go_wp2_with fail
    refine (M.out _).mono ?_; rintro e w1 ⟨rfl, hg⟩; obtain ⟨hc, hf⟩ := hg.cells; have hz := hg.size; (try simp at hz); have z0 : w.heap.size < w1.heap.size := (by omega); have z1 : w.heap.size + 1 < w1.heap.size := (by omega); have z2 : w.heap.size + 1 + 1 < w1.heap.size := (by omega)
    go_wp2_with fail
    refine (rof_any (mdN a.n b.n 1000000) _).mono ?_; rintro e w1 ⟨rfl, hg⟩; obtain ⟨hc, hf⟩ := hg.cells; have hz := hg.size; (try simp at hz); have z0 : w.heap.size < w1.heap.size := (by omega); have z1 : w.heap.size + 1 < w1.heap.size := (by omega); have z2 : w.heap.size + 1 + 1 < w1.heap.size := (by omega)
    go_wp2
    have q0 : w1.cell? ⟨w.heap.size + 1 + 1, 0, none⟩ = some (.bool false) := by go_simp
    have q1 : w1.cell? ⟨w.heap.size + 1 + 1, 1, none⟩ = some (.int .i64 0) := by go_simp
    exact bodyPost_ret (v := .agg #[.bool (ofV (mdN a.n b.n 1000000)).ok, .int .i64 (ofV (mdN a.n b.n 1000000)).n]) (by simp [results, Tryz.results71, go_sem, *]) rfl ⟨rfl, (by repeat (first | exact Gr.refl _ | refine Gr.alloc ?_ _ | refine Gr.drew ?_ | refine Gr.setCell ?_ (by first | (simp; done) | (simp; omega) | omega) _ | refine Gr.trans ?_ (by assumption)))⟩
set_option maxHeartbeats 800000 in
theorem rdiv_any (a b : Vl) (w : World) :
    Calls Tryz.prog 69 #[.agg #[.bool a.ok, .int .i64 a.n], .agg #[.bool b.ok, .int .i64 b.n]] w fun e w' => e = .returned (.agg #[.bool (divV a b).ok, .int .i64 (divV a b).n]) ∧ Gr w w' := by
  cases hab : (knB a && knB b)
  · have hv : divV a b = ⟨false, 0⟩ := by simp [divV, hab]
    rw [hv]; clear hv
    go_enter Tryz.func69, Tryz.ntmps69
    go_wp2_with fail
    refine (two_any a b _).mono ?_; rintro e w1 ⟨rfl, hg⟩; obtain ⟨hc, hf⟩ := hg.cells; have hz := hg.size; (try simp at hz); have z0 : w.heap.size < w1.heap.size := (by omega); have z1 : w.heap.size + 1 < w1.heap.size := (by omega); have z2 : w.heap.size + 1 + 1 < w1.heap.size := (by omega)
    go_wp2
    have q0 : w1.cell? ⟨w.heap.size + 1 + 1, 0, none⟩ = some (.bool false) := by go_simp
    have q1 : w1.cell? ⟨w.heap.size + 1 + 1, 1, none⟩ = some (.int .i64 0) := by go_simp
    exact bodyPost_ret (v := .agg #[.bool false, .int .i64 0]) (by simp [results, Tryz.results69, go_sem, *]) rfl ⟨rfl, (by repeat (first | exact Gr.refl _ | refine Gr.alloc ?_ _ | refine Gr.drew ?_ | refine Gr.setCell ?_ (by first | (simp; done) | (simp; omega) | omega) _ | refine Gr.trans ?_ (by assumption)))⟩
  have hv : divV a b = mdV a.n 1000000 b.n := by simp [divV, hab]
  rw [hv]; clear hv
  have ha : knB a = true := by simp at hab; exact hab.1
  have hb : knB b = true := by simp at hab; exact hab.2
  have a1 := knB_lo ha
  have a2 := knB_hi ha
  have b1 := knB_lo hb
  have b2 := knB_hi hb
  have M := Lib.hid (rmuldiv_at a.n 1000000 b.n (by omega) (by omega) (by omega) (by omega) (by omega) (by omega))
  cases hok : mdOk a.n 1000000 b.n
  · have hv : mdV a.n 1000000 b.n = ⟨false, 0⟩ := by simp [mdV, hok]
    rw [hv]; clear hv
    go_enter Tryz.func69, Tryz.ntmps69
    go_wp2_with fail
    refine (two_any a b _).mono ?_; rintro e w1 ⟨rfl, hg⟩; obtain ⟨hc, hf⟩ := hg.cells; have hz := hg.size; (try simp at hz); have z0 : w.heap.size < w1.heap.size := (by omega); have z1 : w.heap.size + 1 < w1.heap.size := (by omega); have z2 : w.heap.size + 1 + 1 < w1.heap.size := (by omega)
    go_wp2_with fail
    refine (M.out _).mono ?_; rintro e w1 ⟨rfl, hg⟩; obtain ⟨hc, hf⟩ := hg.cells; have hz := hg.size; (try simp at hz); have z0 : w.heap.size < w1.heap.size := (by omega); have z1 : w.heap.size + 1 < w1.heap.size := (by omega); have z2 : w.heap.size + 1 + 1 < w1.heap.size := (by omega)
    go_wp2
    have q0 : w1.cell? ⟨w.heap.size + 1 + 1, 0, none⟩ = some (.bool false) := by go_simp
    have q1 : w1.cell? ⟨w.heap.size + 1 + 1, 1, none⟩ = some (.int .i64 0) := by go_simp
    exact bodyPost_ret (v := .agg #[.bool false, .int .i64 0]) (by simp [results, Tryz.results69, go_sem, *]) rfl ⟨rfl, (by repeat (first | exact Gr.refl _ | refine Gr.alloc ?_ _ | refine Gr.drew ?_ | refine Gr.setCell ?_ (by first | (simp; done) | (simp; omega) | omega) _ | refine Gr.trans ?_ (by assumption)))⟩
  · have hv : mdV a.n 1000000 b.n = ofV (mdN a.n 1000000 b.n) := by simp [mdV, hok]
    rw [hv]; clear hv
    go_enter Tryz.func69, Tryz.ntmps69
    go_wp2_with fail
    refine (two_any a b _).mono ?_; rintro e w1 ⟨rfl, hg⟩; obtain ⟨hc, hf⟩ := hg.cells; have hz := hg.size; (try simp at hz); have z0 : w.heap.size < w1.heap.size := (by omega); have z1 : w.heap.size + 1 < w1.heap.size := (by omega); have z2 : w.heap.size + 1 + 1 < w1.heap.size := (by omega)
    go_wp2_with fail
    refine (M.out _).mono ?_; rintro e w1 ⟨rfl, hg⟩; obtain ⟨hc, hf⟩ := hg.cells; have hz := hg.size; (try simp at hz); have z0 : w.heap.size < w1.heap.size := (by omega); have z1 : w.heap.size + 1 < w1.heap.size := (by omega); have z2 : w.heap.size + 1 + 1 < w1.heap.size := (by omega)
    go_wp2_with fail
    refine (rof_any (mdN a.n 1000000 b.n) _).mono ?_; rintro e w1 ⟨rfl, hg⟩; obtain ⟨hc, hf⟩ := hg.cells; have hz := hg.size; (try simp at hz); have z0 : w.heap.size < w1.heap.size := (by omega); have z1 : w.heap.size + 1 < w1.heap.size := (by omega); have z2 : w.heap.size + 1 + 1 < w1.heap.size := (by omega)
    go_wp2
    have q0 : w1.cell? ⟨w.heap.size + 1 + 1, 0, none⟩ = some (.bool false) := by go_simp
    have q1 : w1.cell? ⟨w.heap.size + 1 + 1, 1, none⟩ = some (.int .i64 0) := by go_simp
    exact bodyPost_ret (v := .agg #[.bool (ofV (mdN a.n 1000000 b.n)).ok, .int .i64 (ofV (mdN a.n 1000000 b.n)).n]) (by simp [results, Tryz.results69, go_sem, *]) rfl ⟨rfl, (by repeat (first | exact Gr.refl _ | refine Gr.alloc ?_ _ | refine Gr.drew ?_ | refine Gr.setCell ?_ (by first | (simp; done) | (simp; omega) | omega) _ | refine Gr.trans ?_ (by assumption)))⟩
end Go.Proofs.YtbdichmkgcngbaaGreat
