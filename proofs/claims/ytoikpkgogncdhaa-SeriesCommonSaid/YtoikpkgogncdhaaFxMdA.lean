/- MulDiv: what it comes to ('md'), and the contract of the program's MulDiv. -/
import Derived.Test.YtoikpkgogncdhaaFxMd
namespace Go.Proofs.Ytoikpkgogncdhaa
open Go.RowKit

/-- the quotient of naturals, rounded, halves up. -/
def rq (P d : Nat) : Nat := P / d + (if d - P % d ≤ P % d then 1 else 0)
def mdOk (a b c : Int) : Bool := !(c == 0) && decide (rq (a.natAbs * b.natAbs) c.natAbs ≤ 4611686018427387904)
def mdNeg (a b c : Int) : Bool := (decide (a < 0) != decide (b < 0)) != decide (c < 0)
def mdN (a b c : Int) : Int :=
  bif mdOk a b c then (bif mdNeg a b c then -(rq (a.natAbs * b.natAbs) c.natAbs : Int) else (rq (a.natAbs * b.natAbs) c.natAbs : Int)) else 0

theorem rq_up {P d : Nat} (h : d - P % d ≤ P % d) : rq P d = P / d + 1 := by unfold rq; rw [if_pos h]
theorem rq_dn {P d : Nat} (h : ¬ d - P % d ≤ P % d) : rq P d = P / d := by unfold rq; rw [if_neg h, Nat.add_zero]
theorem rq_ge (P d : Nat) : P / d ≤ rq P d := by unfold rq; split <;> omega
theorem mdOk_no {a b c : Int} (h : 4611686018427387904 < rq (a.natAbs * b.natAbs) c.natAbs) : mdOk a b c = false := by
  have : ¬ rq (a.natAbs * b.natAbs) c.natAbs ≤ 4611686018427387904 := by omega
  simp [mdOk, this]
theorem mdOk_yes {a b c : Int} (hc : c ≠ 0) (h : rq (a.natAbs * b.natAbs) c.natAbs ≤ 4611686018427387904) : mdOk a b c = true := by
  simp [mdOk, h, hc]
/-- what MulDiv hands back. -/
def mdE (a b c : Int) : Ending := .returned (.tuple #[.int .i64 (mdN a b c), .bool (mdOk a b c)])
theorem md_no {a b c : Int} (h : mdOk a b c = false) : Ending.returned (.tuple #[.int .i64 0, .bool false]) = mdE a b c := by
  simp [mdE, mdN, h]
theorem md_neg {a b c q : Int} (h : mdOk a b c = true) (hn : mdNeg a b c = true) (hq : (rq (a.natAbs * b.natAbs) c.natAbs : Int) = q) : Ending.returned (.tuple #[.int .i64 (-q), .bool true]) = mdE a b c := by
  simp [mdE, mdN, h, hn, hq]
theorem md_pos {a b c q : Int} (h : mdOk a b c = true) (hn : mdNeg a b c = false) (hq : (rq (a.natAbs * b.natAbs) c.natAbs : Int) = q) : Ending.returned (.tuple #[.int .i64 q, .bool true]) = mdE a b c := by
  simp [mdE, mdN, h, hn, hq]

set_option maxRecDepth 100000 in
set_option maxHeartbeats 2000000 in
theorem muldiv_any (a b c : Int) (ha1 : -9223372036854775808 ≤ a) (ha2 : a ≤ 9223372036854775807) (hb1 : -9223372036854775808 ≤ b) (hb2 : b ≤ 9223372036854775807) (hc1 : -9223372036854775808 ≤ c) (hc2 : c ≤ 9223372036854775807) (w : World) :
    Calls Try.prog 72 #[.int .i64 a, .int .i64 b, .int .i64 c] w fun e w' => e = mdE a b c ∧ Gr w w' := by
  by_cases hc0 : c = 0
  · subst hc0
    have E := Lib.hid (md_no (a := a) (b := b) (c := 0) (by simp [mdOk]))
    go_enter Try.func72, Try.ntmps72
    go_wp2
    go_ret2
    exact ⟨E.out, Gr.refl _⟩
  have hP1 : a.natAbs * b.natAbs ≤ 9223372036854775808 * 9223372036854775808 := Nat.mul_le_mul (by omega) (by omega)
  have t0 : (c == 0) = false := by simp [hc0]
  have sa' := size_any a ha1 ha2
  have sb' := size_any b hb1 hb2
  have sc' := size_any c hc1 hc2
  have sm' := mul64_any a.natAbs b.natAbs (by omega) (by omega)
  obtain ⟨A, hA⟩ : ∃ A, A = a.natAbs := ⟨_, rfl⟩
  obtain ⟨B, hB⟩ : ∃ B, B = b.natAbs := ⟨_, rfl⟩
  obtain ⟨d, hd⟩ : ∃ d, d = c.natAbs := ⟨_, rfl⟩
  obtain ⟨H, hH⟩ : ∃ H, H = A * B / 18446744073709551616 := ⟨_, rfl⟩
  obtain ⟨L, hL⟩ : ∃ L, L = A * B % 18446744073709551616 := ⟨_, rfl⟩
  obtain ⟨q, hq⟩ : ∃ q, q = A * B / d := ⟨_, rfl⟩
  obtain ⟨r, hr⟩ : ∃ r, r = A * B % d := ⟨_, rfl⟩
  rw [← hA] at sa' sm' hP1; rw [← hB] at sb' sm' hP1; rw [← hd] at sc'; rw [← hH, ← hL] at sm'
  have hPeq : H * 18446744073709551616 + L = A * B := by omega
  have hd0 : 1 ≤ d := by omega
  have hd63 : d ≤ 9223372036854775808 := by omega
  have hr1 : r < d := by rw [hr]; exact Nat.mod_lt _ hd0
  have hL1 : L < 18446744073709551616 := by omega
  have sa := Lib.hid sa'; have sb := Lib.hid sb'; have sc := Lib.hid sc'; have sm := Lib.hid sm'
  have i1 : (H : Int) ≤ 18446744073709551615 := by omega
  have i2 : (L : Int) ≤ 18446744073709551615 := by omega
  have i3 : (d : Int) ≤ 9223372036854775808 := by omega
  have i4 : (1 : Int) ≤ (d : Int) := by omega
  have i5 : (r : Int) < (d : Int) := by omega
  by_cases hh : (d : Int) ≤ (H : Int)
  · have hqq : 18446744073709551616 ≤ A * B / d := by rw [Nat.le_div_iff_mul_le hd0]; have : d * 18446744073709551616 ≤ H * 18446744073709551616 := Nat.mul_le_mul_right _ (by omega); omega
    have E := Lib.hid (md_no (a := a) (b := b) (c := c) (mdOk_no (by have := rq_ge (A * B) d; rw [← hA, ← hB, ← hd]; omega)))
    clear hqq
    clear sa' sb' sc' sm' hP1 hc0 hA hB hd hH hL hq hr hPeq hd0 hd63 hr1 hL1
    go_enter Try.func72, Try.ntmps72
    go_wp2_with fail
    refine (sc.out _).mono ?_; rintro e w1 ⟨rfl, rfl⟩
    go_wp2_with fail
    refine (sa.out _).mono ?_; rintro e w1 ⟨rfl, rfl⟩
    go_wp2_with fail
    refine (sb.out _).mono ?_; rintro e w1 ⟨rfl, rfl⟩
    go_wp2_with fail
    refine (sm.out _).mono ?_; rintro e w1 ⟨rfl, rfl⟩
    go_wp2
    go_ret2
    exact ⟨E.out, (by repeat (first | exact Gr.refl _ | refine Gr.alloc ?_ _ | refine Gr.drew ?_ | refine Gr.setCell ?_ (by first | (simp; done) | (simp; omega) | omega) _ | refine Gr.trans ?_ (by assumption)))⟩
  have hHd : H < d := by omega
  have sd' := fun w => div64_any H L d hHd (by omega) hL1 w
  rw [hPeq, ← hq, ← hr] at sd'
  have hq64 : q < 18446744073709551616 := by
    rw [hq, Nat.div_lt_iff_lt_mul hd0, ← hPeq]
    have : (H + 1) * 18446744073709551616 ≤ d * 18446744073709551616 := Nat.mul_le_mul_right _ hHd
    omega
  have i6 : (q : Int) ≤ 18446744073709551615 := by omega
  have sd := Lib.hid sd'
  clear sd'
  by_cases h1 : (4611686018427387904 : Int) < (q : Int)
  · have E := Lib.hid (md_no (a := a) (b := b) (c := c) (mdOk_no (by have := rq_ge (A * B) d; rw [← hA, ← hB, ← hd]; omega)))
    clear sa' sb' sc' sm' hP1 hc0 hA hB hd hH hL hq hr hPeq hd0 hd63 hr1 hL1 hHd hq64
    go_enter Try.func72, Try.ntmps72
    go_wp2_with fail
    refine (sc.out _).mono ?_; rintro e w1 ⟨rfl, rfl⟩
    go_wp2_with fail
    refine (sa.out _).mono ?_; rintro e w1 ⟨rfl, rfl⟩
    go_wp2_with fail
    refine (sb.out _).mono ?_; rintro e w1 ⟨rfl, rfl⟩
    go_wp2_with fail
    refine (sm.out _).mono ?_; rintro e w1 ⟨rfl, rfl⟩
    go_wp2_with fail
    refine (sd.out _).mono ?_; rintro e w1 ⟨rfl, hg⟩
    go_wp2
    go_ret2
    exact ⟨E.out, (by repeat (first | exact Gr.refl _ | refine Gr.alloc ?_ _ | refine Gr.drew ?_ | refine Gr.setCell ?_ (by first | (simp; done) | (simp; omega) | omega) _ | refine Gr.trans ?_ (by assumption)))⟩
  by_cases h2 : (d : Int) - (r : Int) ≤ (r : Int)
  · have hup := rq_up (P := A * B) (d := d) (by omega)
    rw [← hq] at hup
    obtain ⟨q1, hq1⟩ : ∃ q1, q1 = q + 1 := ⟨_, rfl⟩
    have eQ : (q : Int) + 1 = (q1 : Int) := by omega
    have j0 : (q1 : Int) ≤ 18446744073709551615 := by omega
    by_cases h3 : (4611686018427387904 : Int) < (q1 : Int)
    · have E := Lib.hid (md_no (a := a) (b := b) (c := c) (mdOk_no (by rw [← hA, ← hB, ← hd]; omega)))
      clear hup hq1
      clear sa' sb' sc' sm' hP1 hc0 hA hB hd hH hL hq hr hPeq hd0 hd63 hr1 hL1 hHd hq64
      go_enter Try.func72, Try.ntmps72
      go_wp2_with fail
      refine (sc.out _).mono ?_; rintro e w1 ⟨rfl, rfl⟩
      go_wp2_with fail
      refine (sa.out _).mono ?_; rintro e w1 ⟨rfl, rfl⟩
      go_wp2_with fail
      refine (sb.out _).mono ?_; rintro e w1 ⟨rfl, rfl⟩
      go_wp2_with fail
      refine (sm.out _).mono ?_; rintro e w1 ⟨rfl, rfl⟩
      go_wp2_with fail
      refine (sd.out _).mono ?_; rintro e w1 ⟨rfl, hg⟩
      go_wp2
      go_ret2
      exact ⟨E.out, (by repeat (first | exact Gr.refl _ | refine Gr.alloc ?_ _ | refine Gr.drew ?_ | refine Gr.setCell ?_ (by first | (simp; done) | (simp; omega) | omega) _ | refine Gr.trans ?_ (by assumption)))⟩
    have hok := mdOk_yes (a := a) (b := b) (c := c) hc0 (by rw [← hA, ← hB, ← hd]; omega)
    cases hn : (!((!(decide (a < 0) == decide (b < 0))) == decide (c < 0)))
    · have E := Lib.hid (md_pos (a := a) (b := b) (c := c) (q := (q1 : Int)) hok hn (by rw [← hA, ← hB, ← hd]; omega))
      clear hup hok hq1
      clear sa' sb' sc' sm' hP1 hc0 hA hB hd hH hL hq hr hPeq hd0 hd63 hr1 hL1 hHd hq64
      go_enter Try.func72, Try.ntmps72
      go_wp2_with fail
      refine (sc.out _).mono ?_; rintro e w1 ⟨rfl, rfl⟩
      go_wp2_with fail
      refine (sa.out _).mono ?_; rintro e w1 ⟨rfl, rfl⟩
      go_wp2_with fail
      refine (sb.out _).mono ?_; rintro e w1 ⟨rfl, rfl⟩
      go_wp2_with fail
      refine (sm.out _).mono ?_; rintro e w1 ⟨rfl, rfl⟩
      go_wp2_with fail
      refine (sd.out _).mono ?_; rintro e w1 ⟨rfl, hg⟩
      go_wp2
      go_ret2
      exact ⟨E.out, (by repeat (first | exact Gr.refl _ | refine Gr.alloc ?_ _ | refine Gr.drew ?_ | refine Gr.setCell ?_ (by first | (simp; done) | (simp; omega) | omega) _ | refine Gr.trans ?_ (by assumption)))⟩
    · have E := Lib.hid (md_neg (a := a) (b := b) (c := c) (q := (q1 : Int)) hok hn (by rw [← hA, ← hB, ← hd]; omega))
      clear hup hok hq1
      clear sa' sb' sc' sm' hP1 hc0 hA hB hd hH hL hq hr hPeq hd0 hd63 hr1 hL1 hHd hq64
      go_enter Try.func72, Try.ntmps72
      go_wp2_with fail
      refine (sc.out _).mono ?_; rintro e w1 ⟨rfl, rfl⟩
      go_wp2_with fail
      refine (sa.out _).mono ?_; rintro e w1 ⟨rfl, rfl⟩
      go_wp2_with fail
      refine (sb.out _).mono ?_; rintro e w1 ⟨rfl, rfl⟩
      go_wp2_with fail
      refine (sm.out _).mono ?_; rintro e w1 ⟨rfl, rfl⟩
      go_wp2_with fail
      refine (sd.out _).mono ?_; rintro e w1 ⟨rfl, hg⟩
      go_wp2
      go_ret2
      exact ⟨E.out, (by repeat (first | exact Gr.refl _ | refine Gr.alloc ?_ _ | refine Gr.drew ?_ | refine Gr.setCell ?_ (by first | (simp; done) | (simp; omega) | omega) _ | refine Gr.trans ?_ (by assumption)))⟩
  · have hup := rq_dn (P := A * B) (d := d) (by omega)
    rw [← hq] at hup
    have hok := mdOk_yes (a := a) (b := b) (c := c) hc0 (by rw [← hA, ← hB, ← hd]; omega)
    cases hn : (!((!(decide (a < 0) == decide (b < 0))) == decide (c < 0)))
    · have E := Lib.hid (md_pos (a := a) (b := b) (c := c) (q := (q : Int)) hok hn (by rw [← hA, ← hB, ← hd]; omega))
      clear hup hok
      clear sa' sb' sc' sm' hP1 hc0 hA hB hd hH hL hq hr hPeq hd0 hd63 hr1 hL1 hHd hq64
      go_enter Try.func72, Try.ntmps72
      go_wp2_with fail
      refine (sc.out _).mono ?_; rintro e w1 ⟨rfl, rfl⟩
      go_wp2_with fail
      refine (sa.out _).mono ?_; rintro e w1 ⟨rfl, rfl⟩
      go_wp2_with fail
      refine (sb.out _).mono ?_; rintro e w1 ⟨rfl, rfl⟩
      go_wp2_with fail
      refine (sm.out _).mono ?_; rintro e w1 ⟨rfl, rfl⟩
      go_wp2_with fail
      refine (sd.out _).mono ?_; rintro e w1 ⟨rfl, hg⟩
      go_wp2
      go_ret2
      exact ⟨E.out, (by repeat (first | exact Gr.refl _ | refine Gr.alloc ?_ _ | refine Gr.drew ?_ | refine Gr.setCell ?_ (by first | (simp; done) | (simp; omega) | omega) _ | refine Gr.trans ?_ (by assumption)))⟩
    · have E := Lib.hid (md_neg (a := a) (b := b) (c := c) (q := (q : Int)) hok hn (by rw [← hA, ← hB, ← hd]; omega))
      clear hup hok
      clear sa' sb' sc' sm' hP1 hc0 hA hB hd hH hL hq hr hPeq hd0 hd63 hr1 hL1 hHd hq64
      go_enter Try.func72, Try.ntmps72
      go_wp2_with fail
      refine (sc.out _).mono ?_; rintro e w1 ⟨rfl, rfl⟩
      go_wp2_with fail
      refine (sa.out _).mono ?_; rintro e w1 ⟨rfl, rfl⟩
      go_wp2_with fail
      refine (sb.out _).mono ?_; rintro e w1 ⟨rfl, rfl⟩
      go_wp2_with fail
      refine (sm.out _).mono ?_; rintro e w1 ⟨rfl, rfl⟩
      go_wp2_with fail
      refine (sd.out _).mono ?_; rintro e w1 ⟨rfl, hg⟩
      go_wp2
      go_ret2
      exact ⟨E.out, (by repeat (first | exact Gr.refl _ | refine Gr.alloc ?_ _ | refine Gr.drew ?_ | refine Gr.setCell ?_ (by first | (simp; done) | (simp; omega) | omega) _ | refine Gr.trans ?_ (by assumption)))⟩
end Go.Proofs.Ytoikpkgogncdhaa
