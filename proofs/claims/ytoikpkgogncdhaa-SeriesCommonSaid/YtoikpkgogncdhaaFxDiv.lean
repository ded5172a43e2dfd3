/- The contract of math/bits.Div64 (Go's own text): the quotient and the rest of a number of 128 bits by one of 64. -/
import Derived.Test.YtoikpkgogncdhaaFxDivM
import Derived.Test.YtoikpkgogncdhaaBits
import Derived.BigQuiet
import Derived.Deep.QuietTactic
import Derived.Laws.Bits64b
import Derived.Outline
import Derived.Lib.Hide
namespace Go.Proofs.Ytoikpkgogncdhaa
open Go.RowKit

theorem lz_any (y s : Nat) (hy : y < 18446744073709551616) (hs : Lib.bitLen y + s = 64) (w : World) :
    Calls Try.prog 82 #[.int .u64 y] w fun e w' => e = .returned (.int .i64 s) ∧ w = w' :=
  (Try.bits_LeadingZeros64 _ _ (by omega) (by omega)).mono fun e w' ⟨he, hw⟩ => ⟨by rw [he, Int.toNat_natCast, show (64 - (Lib.bitLen y : Int)) = (s : Int) from by omega], hw.symm⟩

/-- the bounds, behind a name. -/
structure Bd (Y a b u d1 d0 v T T2 : Nat) : Prop where
  hb : b < 4294967296
  ha : a < 4294967296
  ha' : 2147483648 ≤ a
  hu : u < Y
  hv : v < Y
  hd1 : d1 < 4294967296
  hd0 : d0 < 4294967296

theorem dv_end {hi lo y s Y a b u d1 d0 L T T2 v v2 : Nat} (D : Dv hi lo y s Y a b u d1 d0 L) (hT : T = (u * 4294967296 + d1) / Y) (hv : v = (u * 4294967296 + d1) % Y) (hT2 : T2 = (v * 4294967296 + d0) / Y) (hv2 : v2 = (v * 4294967296 + d0) % Y) :
    Ending.returned (.tuple #[.int .u64 ((T : Int) * 4294967296 + (T2 : Int)), .int .u64 ((v2 : Int) / 2 ^ s)]) =
    Ending.returned (.tuple #[.int .u64 (((hi * 18446744073709551616 + lo) / y : Nat) : Int), .int .u64 (((hi * 18446744073709551616 + lo) % y : Nat) : Int)]) := by
  have hY0 : 0 < Y := Nat.lt_of_le_of_lt (Nat.zero_le _) D.hu
  obtain ⟨k1, k2⟩ := Kn.two (u := u) (a := d1) (b := d0) hY0
  have hp : 0 < 2 ^ s := Nat.pow_pos (by omega)
  obtain ⟨k3, k4⟩ := Kn.shifted (P := hi * 18446744073709551616 + lo) (y := y) hp
  rw [D.hN, ← D.hYs, k1] at k3
  rw [D.hN, ← D.hYs, k2] at k4
  rw [← k3, ← k4, ← hT, ← hv, ← hT2, ← hv2]
  have e : (((v2 / 2 ^ s : Nat) : Int)) = (v2 : Int) / 2 ^ s := by rw [Int.natCast_ediv, Int.natCast_pow]; rfl
  rw [e, Int.natCast_add, Int.natCast_mul]
  rfl

set_option maxRecDepth 100000 in
set_option maxHeartbeats 2000000 in
theorem div64_big (hi lo y s : Nat) (h0 : 0 < hi) (hy : hi < y) (hy64 : y < 18446744073709551616) (hlo : lo < 18446744073709551616) (hs : Lib.bitLen y + s = 64) (hs63 : s ≤ 63) (w : World) :
    Calls Try.prog 79 #[.int .u64 hi, .int .u64 lo, .int .u64 y] w fun e w' => e = .returned (.tuple #[.int .u64 (((hi * 18446744073709551616 + lo) / y : Nat) : Int), .int .u64 (((hi * 18446744073709551616 + lo) % y : Nat) : Int)]) ∧ w = w' := by
  obtain ⟨Y, a, b, u, d1, d0, L, D⟩ := dv_mk hi lo y s hy hy64 hlo hs hs63
  have HD := Lib.hid D
  obtain ⟨e1, e2, e3, e4, e5, e6, e7, hY, hb, ha, ha', hu, hd1, hd0, -, -⟩ := D
  have hY64 : Y < 18446744073709551616 := by omega
  obtain ⟨T, Q, M, R, G⟩ := dg_mk hY hb ha ha' hu hd1
  have HG := Lib.hid G
  have e11 := dg_rem hY64 (by omega) HG.out.hTd
  have v_lt : (u * 4294967296 + d1) % Y < Y := Nat.mod_lt _ (by omega)
  obtain ⟨v, hv⟩ : ∃ v, v = (u * 4294967296 + d1) % Y := ⟨_, rfl⟩
  rw [← hv] at e11 v_lt
  obtain ⟨T2, Q2, M2, R2, G2⟩ := dg_mk hY hb ha ha' v_lt hd0
  have HG2 := Lib.hid G2
  have e12 := dg_rem hY64 (by omega) HG2.out.hTd
  obtain ⟨v2, hv2⟩ : ∃ v2, v2 = (v * 4294967296 + d0) % Y := ⟨_, rfl⟩
  rw [← hv2] at e12
  have HF := Lib.hid (dv_end HD.out HG.out.hTd hv HG2.out.hTd hv2)
  have BD : Hid (Bd Y a b u d1 d0 v T T2) := Lib.hid ⟨hb, ha, ha', hu, v_lt, hd1, hd0⟩
  obtain ⟨e8, e9, e10, hMu, -, -, hQ, hR, -, hT32⟩ := G
  obtain ⟨e8', e9', e10', hMu', -, -, hQ', hR', -, hT32'⟩ := G2
  have i1 : (T : Int) < 4294967296 := by omega
  have i2 : (T2 : Int) < 4294967296 := by omega
  have i3 : (M : Int) ≤ (u : Int) := by omega
  have i4 : (M2 : Int) ≤ (v : Int) := by omega
  have i5 : (d1 : Int) < 4294967296 := by omega
  have i6 : (d0 : Int) < 4294967296 := by omega
  have i7 : (1 : Int) ≤ (a : Int) := by omega
  have i8 : (a : Int) < 4294967296 := by omega
  have i9 : ¬ (y : Int) ≤ (hi : Int) := by omega
  have i10 : (Q : Int) < 8589934592 := by omega
  have i11 : (Q2 : Int) < 8589934592 := by omega
  have t1 : ((y : Int) == 0) = false := by simp; omega
  have t2 : ((hi : Int) == 0) = false := by simp; omega
  have LZ := lz_any y s hy64 hs
  have j1 : (u : Int) < 18446744073709551616 := by omega
  have j2 : (v : Int) < 18446744073709551616 := by omega
  have HY := Lib.hid hY
  clear hY hs hv hv2 hb ha ha' hu hd1 hd0 v_lt hMu hQ hR hT32 hMu' hQ' hR' hT32' hY64 h0 hy hy64 hlo
  go_enter Try.func79, Try.ntmps79
  go_wp2_with fail
  refine (LZ _).mono ?_; rintro e w' ⟨rfl, rfl⟩
  clear LZ
  go_wp2
  go_loop [15, 16] (fun t r' => ∃ q r : Nat, t = .int .u64 q ∧ r' = .int .u64 r ∧ Hid (u = q * a + r) ∧ T ≤ q ∧ q < 8589934592 ∧ r < 4294967296) (fun t _ => (intOf t).toNat)
  case atStart => exact ⟨Q, R, rfl, rfl, HG.out.hq, HG.out.hT, HG.out.hQ, by have := HG.out.hR; have := BD.out.ha; omega⟩
  case round =>
    clear e8 e9 e10
    obtain ⟨q, r, rfl, rfl, hq, hTq, hq33, hr⟩ := hrel
    have hq0 : (0 : Int) ≤ (q : Int) := by omega
    have hr' : (r : Int) < 4294967296 := by omega
    have hq2 : (q : Int) < 8589934592 := by omega
    have K := Lib.hid (And.intro hTq (And.intro hq33 hr))
    clear hTq hq33 hr
    by_cases hq32 : (4294967296 : Int) ≤ (q : Int)
    · obtain ⟨g1, g2, g3⟩ := Kn.dec HY.out BD.out.hu BD.out.hd1 hq.out (by rw [← HG.out.hTd]; exact K.out.1) (Or.inl (by omega))
      rw [← HG.out.hTd] at g2
      have G3 := Lib.hid g3; have G2 := Lib.hid g2; clear g3 g2
      by_cases hra : (4294967296 : Int) ≤ (r : Int) + (a : Int)
      · have eT : (q : Int) - 1 = (T : Int) := by
          have := Kn.exit2 HY.out (by have := BD.out.ha'; omega) BD.out.hb BD.out.hu G3.out (by rw [← HG.out.hTd]; exact G2.out) (by omega)
          rw [← HG.out.hTd] at this; omega
        go_wp2
        go_loop [18, 16] (fun t r' => ∃ q r : Nat, t = .int .u64 q ∧ r' = .int .u64 r ∧ Hid (v = q * a + r) ∧ T2 ≤ q ∧ q < 8589934592 ∧ r < 4294967296) (fun t _ => (intOf t).toNat)
        case atStart => exact ⟨Q2, R2, rfl, rfl, HG2.out.hq, HG2.out.hT, HG2.out.hQ, by have := HG2.out.hR; have := BD.out.ha; omega⟩
        case round =>
          obtain ⟨q, r, rfl, rfl, hq, hTq, hq33, hr⟩ := hrel
          have hq0 : (0 : Int) ≤ (q : Int) := by omega
          have hr' : (r : Int) < 4294967296 := by omega
          have hq2 : (q : Int) < 8589934592 := by omega
          have K := Lib.hid (And.intro hTq (And.intro hq33 hr))
          clear hTq hq33 hr
          by_cases hq32 : (4294967296 : Int) ≤ (q : Int)
          · obtain ⟨g1, g2, g3⟩ := Kn.dec HY.out BD.out.hv BD.out.hd0 hq.out (by rw [← HG2.out.hTd]; exact K.out.1) (Or.inl (by omega))
            rw [← HG2.out.hTd] at g2
            have G3 := Lib.hid g3; have G2 := Lib.hid g2; clear g3 g2
            by_cases hra : (4294967296 : Int) ≤ (r : Int) + (a : Int)
            · have eT : (q : Int) - 1 = (T2 : Int) := by
                have := Kn.exit2 HY.out (by have := BD.out.ha'; omega) BD.out.hb BD.out.hv G3.out (by rw [← HG2.out.hTd]; exact G2.out) (by omega)
                rw [← HG2.out.hTd] at this; omega
              go_wp2
              go_ret2
              exact ⟨HF.out, rfl⟩

            · go_wp2
              go_round
              case rel => exact ⟨q - 1, r + a, by go_num, by go_num, G3.out, G2.out, by have := K.out; omega, by omega⟩
              case measure => simp [intOf]; omega
          · have c : (q : Int) * (b : Int) = ((q * b : Nat) : Int) := (Int.natCast_mul _ _).symm
            have eX : IntKind.u64.wrap ((q : Int) * (b : Int)) = ((q * b : Nat) : Int) := by
              have h1 : q * b ≤ 4294967295 * 4294967295 := Nat.mul_le_mul (by omega) (by have := BD.out.hb; omega)
              rw [c, dv_wrap, Nat.mod_eq_of_lt (by omega)]
            obtain ⟨X, hX⟩ : ∃ X, X = q * b := ⟨_, rfl⟩
            rw [← hX] at eX
            have HX := Lib.hid hX; clear hX c
            by_cases ht : 4294967296 * (r : Int) + (d0 : Int) < (X : Int)
            · obtain ⟨g1, g2, g3⟩ := Kn.dec HY.out BD.out.hv BD.out.hd0 hq.out (by rw [← HG2.out.hTd]; exact K.out.1) (Or.inr (by rw [← HX.out]; omega))
              rw [← HG2.out.hTd] at g2
              have G3 := Lib.hid g3; have G2 := Lib.hid g2; clear g3 g2
              by_cases hra : (4294967296 : Int) ≤ (r : Int) + (a : Int)
              · have eT : (q : Int) - 1 = (T2 : Int) := by
                  have := Kn.exit2 HY.out (by have := BD.out.ha'; omega) BD.out.hb BD.out.hv G3.out (by rw [← HG2.out.hTd]; exact G2.out) (by omega)
                  rw [← HG2.out.hTd] at this; omega
                go_wp2
                go_ret2
                exact ⟨HF.out, rfl⟩

              · go_wp2
                go_round
                case rel => exact ⟨q - 1, r + a, by go_num, by go_num, G3.out, G2.out, by have := K.out; omega, by omega⟩
                case measure => simp [intOf]; omega
            · obtain rfl : q = T2 := by
                have := Kn.exit1 HY.out (by have := BD.out.ha'; omega) hq.out (by rw [← HG2.out.hTd]; exact K.out.1) (by rw [← HX.out]; omega)
                rw [← HG2.out.hTd] at this; exact this
              go_wp2
              go_ret2
              exact ⟨HF.out, rfl⟩



      · go_wp2
        go_round
        case rel => exact ⟨q - 1, r + a, by go_num, by go_num, G3.out, G2.out, by have := K.out; omega, by omega⟩
        case measure => simp [intOf]; omega
    · have c : (q : Int) * (b : Int) = ((q * b : Nat) : Int) := (Int.natCast_mul _ _).symm
      have eX : IntKind.u64.wrap ((q : Int) * (b : Int)) = ((q * b : Nat) : Int) := by
        have h1 : q * b ≤ 4294967295 * 4294967295 := Nat.mul_le_mul (by omega) (by have := BD.out.hb; omega)
        rw [c, dv_wrap, Nat.mod_eq_of_lt (by omega)]
      obtain ⟨X, hX⟩ : ∃ X, X = q * b := ⟨_, rfl⟩
      rw [← hX] at eX
      have HX := Lib.hid hX; clear hX c
      by_cases ht : 4294967296 * (r : Int) + (d1 : Int) < (X : Int)
      · obtain ⟨g1, g2, g3⟩ := Kn.dec HY.out BD.out.hu BD.out.hd1 hq.out (by rw [← HG.out.hTd]; exact K.out.1) (Or.inr (by rw [← HX.out]; omega))
        rw [← HG.out.hTd] at g2
        have G3 := Lib.hid g3; have G2 := Lib.hid g2; clear g3 g2
        by_cases hra : (4294967296 : Int) ≤ (r : Int) + (a : Int)
        · have eT : (q : Int) - 1 = (T : Int) := by
            have := Kn.exit2 HY.out (by have := BD.out.ha'; omega) BD.out.hb BD.out.hu G3.out (by rw [← HG.out.hTd]; exact G2.out) (by omega)
            rw [← HG.out.hTd] at this; omega
          go_wp2
          go_loop [18, 16] (fun t r' => ∃ q r : Nat, t = .int .u64 q ∧ r' = .int .u64 r ∧ Hid (v = q * a + r) ∧ T2 ≤ q ∧ q < 8589934592 ∧ r < 4294967296) (fun t _ => (intOf t).toNat)
          case atStart => exact ⟨Q2, R2, rfl, rfl, HG2.out.hq, HG2.out.hT, HG2.out.hQ, by have := HG2.out.hR; have := BD.out.ha; omega⟩
          case round =>
            obtain ⟨q, r, rfl, rfl, hq, hTq, hq33, hr⟩ := hrel
            have hq0 : (0 : Int) ≤ (q : Int) := by omega
            have hr' : (r : Int) < 4294967296 := by omega
            have hq2 : (q : Int) < 8589934592 := by omega
            have K := Lib.hid (And.intro hTq (And.intro hq33 hr))
            clear hTq hq33 hr
            by_cases hq32 : (4294967296 : Int) ≤ (q : Int)
            · obtain ⟨g1, g2, g3⟩ := Kn.dec HY.out BD.out.hv BD.out.hd0 hq.out (by rw [← HG2.out.hTd]; exact K.out.1) (Or.inl (by omega))
              rw [← HG2.out.hTd] at g2
              have G3 := Lib.hid g3; have G2 := Lib.hid g2; clear g3 g2
              by_cases hra : (4294967296 : Int) ≤ (r : Int) + (a : Int)
              · have eT : (q : Int) - 1 = (T2 : Int) := by
                  have := Kn.exit2 HY.out (by have := BD.out.ha'; omega) BD.out.hb BD.out.hv G3.out (by rw [← HG2.out.hTd]; exact G2.out) (by omega)
                  rw [← HG2.out.hTd] at this; omega
                go_wp2
                go_ret2
                exact ⟨HF.out, rfl⟩

              · go_wp2
                go_round
                case rel => exact ⟨q - 1, r + a, by go_num, by go_num, G3.out, G2.out, by have := K.out; omega, by omega⟩
                case measure => simp [intOf]; omega
            · have c : (q : Int) * (b : Int) = ((q * b : Nat) : Int) := (Int.natCast_mul _ _).symm
              have eX : IntKind.u64.wrap ((q : Int) * (b : Int)) = ((q * b : Nat) : Int) := by
                have h1 : q * b ≤ 4294967295 * 4294967295 := Nat.mul_le_mul (by omega) (by have := BD.out.hb; omega)
                rw [c, dv_wrap, Nat.mod_eq_of_lt (by omega)]
              obtain ⟨X, hX⟩ : ∃ X, X = q * b := ⟨_, rfl⟩
              rw [← hX] at eX
              have HX := Lib.hid hX; clear hX c
              by_cases ht : 4294967296 * (r : Int) + (d0 : Int) < (X : Int)
              · obtain ⟨g1, g2, g3⟩ := Kn.dec HY.out BD.out.hv BD.out.hd0 hq.out (by rw [← HG2.out.hTd]; exact K.out.1) (Or.inr (by rw [← HX.out]; omega))
                rw [← HG2.out.hTd] at g2
                have G3 := Lib.hid g3; have G2 := Lib.hid g2; clear g3 g2
                by_cases hra : (4294967296 : Int) ≤ (r : Int) + (a : Int)
                · have eT : (q : Int) - 1 = (T2 : Int) := by
                    have := Kn.exit2 HY.out (by have := BD.out.ha'; omega) BD.out.hb BD.out.hv G3.out (by rw [← HG2.out.hTd]; exact G2.out) (by omega)
                    rw [← HG2.out.hTd] at this; omega
                  go_wp2
                  go_ret2
                  exact ⟨HF.out, rfl⟩

                · go_wp2
                  go_round
                  case rel => exact ⟨q - 1, r + a, by go_num, by go_num, G3.out, G2.out, by have := K.out; omega, by omega⟩
                  case measure => simp [intOf]; omega
              · obtain rfl : q = T2 := by
                  have := Kn.exit1 HY.out (by have := BD.out.ha'; omega) hq.out (by rw [← HG2.out.hTd]; exact K.out.1) (by rw [← HX.out]; omega)
                  rw [← HG2.out.hTd] at this; exact this
                go_wp2
                go_ret2
                exact ⟨HF.out, rfl⟩



        · go_wp2
          go_round
          case rel => exact ⟨q - 1, r + a, by go_num, by go_num, G3.out, G2.out, by have := K.out; omega, by omega⟩
          case measure => simp [intOf]; omega
      · obtain rfl : q = T := by
          have := Kn.exit1 HY.out (by have := BD.out.ha'; omega) hq.out (by rw [← HG.out.hTd]; exact K.out.1) (by rw [← HX.out]; omega)
          rw [← HG.out.hTd] at this; exact this
        go_wp2
        go_loop [18, 16] (fun t r' => ∃ q r : Nat, t = .int .u64 q ∧ r' = .int .u64 r ∧ Hid (v = q * a + r) ∧ T2 ≤ q ∧ q < 8589934592 ∧ r < 4294967296) (fun t _ => (intOf t).toNat)
        case atStart => exact ⟨Q2, R2, rfl, rfl, HG2.out.hq, HG2.out.hT, HG2.out.hQ, by have := HG2.out.hR; have := BD.out.ha; omega⟩
        case round =>
          obtain ⟨q, r, rfl, rfl, hq, hTq, hq33, hr⟩ := hrel
          have hq0 : (0 : Int) ≤ (q : Int) := by omega
          have hr' : (r : Int) < 4294967296 := by omega
          have hq2 : (q : Int) < 8589934592 := by omega
          have K := Lib.hid (And.intro hTq (And.intro hq33 hr))
          clear hTq hq33 hr
          by_cases hq32 : (4294967296 : Int) ≤ (q : Int)
          · obtain ⟨g1, g2, g3⟩ := Kn.dec HY.out BD.out.hv BD.out.hd0 hq.out (by rw [← HG2.out.hTd]; exact K.out.1) (Or.inl (by omega))
            rw [← HG2.out.hTd] at g2
            have G3 := Lib.hid g3; have G2 := Lib.hid g2; clear g3 g2
            by_cases hra : (4294967296 : Int) ≤ (r : Int) + (a : Int)
            · have eT : (q : Int) - 1 = (T2 : Int) := by
                have := Kn.exit2 HY.out (by have := BD.out.ha'; omega) BD.out.hb BD.out.hv G3.out (by rw [← HG2.out.hTd]; exact G2.out) (by omega)
                rw [← HG2.out.hTd] at this; omega
              go_wp2
              go_ret2
              exact ⟨HF.out, rfl⟩

            · go_wp2
              go_round
              case rel => exact ⟨q - 1, r + a, by go_num, by go_num, G3.out, G2.out, by have := K.out; omega, by omega⟩
              case measure => simp [intOf]; omega
          · have c : (q : Int) * (b : Int) = ((q * b : Nat) : Int) := (Int.natCast_mul _ _).symm
            have eX : IntKind.u64.wrap ((q : Int) * (b : Int)) = ((q * b : Nat) : Int) := by
              have h1 : q * b ≤ 4294967295 * 4294967295 := Nat.mul_le_mul (by omega) (by have := BD.out.hb; omega)
              rw [c, dv_wrap, Nat.mod_eq_of_lt (by omega)]
            obtain ⟨X, hX⟩ : ∃ X, X = q * b := ⟨_, rfl⟩
            rw [← hX] at eX
            have HX := Lib.hid hX; clear hX c
            by_cases ht : 4294967296 * (r : Int) + (d0 : Int) < (X : Int)
            · obtain ⟨g1, g2, g3⟩ := Kn.dec HY.out BD.out.hv BD.out.hd0 hq.out (by rw [← HG2.out.hTd]; exact K.out.1) (Or.inr (by rw [← HX.out]; omega))
              rw [← HG2.out.hTd] at g2
              have G3 := Lib.hid g3; have G2 := Lib.hid g2; clear g3 g2
              by_cases hra : (4294967296 : Int) ≤ (r : Int) + (a : Int)
              · have eT : (q : Int) - 1 = (T2 : Int) := by
                  have := Kn.exit2 HY.out (by have := BD.out.ha'; omega) BD.out.hb BD.out.hv G3.out (by rw [← HG2.out.hTd]; exact G2.out) (by omega)
                  rw [← HG2.out.hTd] at this; omega
                go_wp2
                go_ret2
                exact ⟨HF.out, rfl⟩

              · go_wp2
                go_round
                case rel => exact ⟨q - 1, r + a, by go_num, by go_num, G3.out, G2.out, by have := K.out; omega, by omega⟩
                case measure => simp [intOf]; omega
            · obtain rfl : q = T2 := by
                have := Kn.exit1 HY.out (by have := BD.out.ha'; omega) hq.out (by rw [← HG2.out.hTd]; exact K.out.1) (by rw [← HX.out]; omega)
                rw [← HG2.out.hTd] at this; exact this
              go_wp2
              go_ret2
              exact ⟨HF.out, rfl⟩




end Go.Proofs.Ytoikpkgogncdhaa
