/- Plain arithmetic of MulDiv, and the contracts of size, times, Div64 in one form. -/
import Derived.Test.YtoikpkgogncdhaaFxDiv
namespace Go.Proofs.Ytoikpkgogncdhaa
open Go.RowKit

set_option maxRecDepth 100000 in
set_option maxHeartbeats 1000000 in
theorem div64_small (lo y : Nat) (h0 : 0 < y) (hy64 : y < 18446744073709551616) (hlo : lo < 18446744073709551616) (w : World) :
    Calls Try.prog 79 #[.int .u64 0, .int .u64 lo, .int .u64 y] w fun e w' => e = .returned (.tuple #[.int .u64 ((lo / y : Nat) : Int), .int .u64 ((lo % y : Nat) : Int)]) ∧ ∃ n, w' = w.drewN n := by
  have t1 : ((y : Int) == 0) = false := by simp; omega
  have i1 : (1 : Int) ≤ (y : Int) := by omega
  have i2 : (y : Int) ≤ 18446744073709551615 := by omega
  have i3 : (lo : Int) ≤ 18446744073709551615 := by omega
  have i4 : ¬ (y : Int) ≤ 0 := by omega
  have c1 : ((lo / y : Nat) : Int) = (lo : Int) / (y : Int) := Int.natCast_ediv lo y
  have c2 : ((lo % y : Nat) : Int) = (lo : Int) % (y : Int) := Int.natCast_emod lo y
  have eW : IntKind.u64.wrap ((lo : Int) / (y : Int)) = (lo : Int) / (y : Int) := by
    have := Nat.div_le_self lo y
    rw [← c1, dv_wrap, Nat.mod_eq_of_lt (by omega)]
  rw [c1, c2]
  clear c1 c2 h0 hy64 hlo
  go_enter Try.func79, Try.ntmps79
  go_wp2
  go_quiet (fail)
  go_wp2
  go_ret2
  exact ⟨rfl, _, rfl⟩

theorem Gr.drewN {a w : World} (h : Gr a w) (n : Nat) : Gr a (w.drewN n) := ⟨h.os, h.tape, h.output, h.size, h.block⟩
theorem div64_any (hi lo y : Nat) (hy : hi < y) (hy64 : y < 18446744073709551616) (hlo : lo < 18446744073709551616) (w : World) :
    Calls Try.prog 79 #[.int .u64 hi, .int .u64 lo, .int .u64 y] w fun e w' => e = .returned (.tuple #[.int .u64 (((hi * 18446744073709551616 + lo) / y : Nat) : Int), .int .u64 (((hi * 18446744073709551616 + lo) % y : Nat) : Int)]) ∧ Gr w w' := by
  rcases Nat.eq_zero_or_pos hi with h0 | h0
  · subst h0
    refine (div64_small lo y hy hy64 hlo w).mono fun e w' ⟨he, n, hw⟩ => ?_
    subst hw
    rw [Nat.zero_mul, Nat.zero_add]
    exact ⟨he, (Gr.refl w).drewN n⟩
  · obtain ⟨c1, c2, c3, c4⟩ := bitLen_bd 64 y (by simpa using hy64) (by omega) (by omega)
    obtain ⟨s, hs⟩ : ∃ s, Lib.bitLen y + s = 64 := ⟨64 - Lib.bitLen y, by omega⟩
    refine (div64_big hi lo y s h0 hy hy64 hlo hs (by omega) w).mono fun e w' ⟨he, hw⟩ => ?_
    subst hw
    exact ⟨he, Gr.refl w⟩

/-- a number without its sign. -/
theorem wrap_i64 (n : Int) : IntKind.i64.wrap n = (n + 9223372036854775808) % 18446744073709551616 - 9223372036854775808 := IntKind.wrap_i64 n
set_option maxHeartbeats 400000 in
theorem size_any (n : Int) (h1 : -9223372036854775808 ≤ n) (h2 : n ≤ 9223372036854775807) (w : World) :
    Calls Try.prog 77 #[.int .i64 n] w fun e w' => e = .returned (.int .u64 (n.natAbs : Int)) ∧ w = w' := by
  by_cases h0 : n < 0
  · have e1 : IntKind.u64.wrap (-IntKind.u64.wrap n) = (n.natAbs : Int) := by simp only [IntKind.wrap_u64]; omega
    have E1 := Lib.hid e1; clear e1
    go_enter Try.func77, Try.ntmps77
    go_wp2
    go_ret
    exact ⟨by first | rfl | (rw [E1.out]; rfl), rfl⟩
  · have e1 : (n.natAbs : Int) = n := by omega
    have E1 := Lib.hid e1; clear e1
    have h3 : 0 ≤ n := by omega
    go_enter Try.func77, Try.ntmps77
    go_wp2
    go_ret
    exact ⟨by first | rfl | (rw [E1.out]; rfl), rfl⟩
set_option maxHeartbeats 400000 in
theorem rsize_any (n : Int) (h1 : -9223372036854775808 ≤ n) (h2 : n ≤ 9223372036854775807) (w : World) :
    Calls Try.prog 74 #[.int .i64 n] w fun e w' => e = .returned (.int .u64 (n.natAbs : Int)) ∧ w = w' := by
  by_cases h0 : n < 0
  · have e1 : -(n + 1) + 1 = (n.natAbs : Int) := by omega
    have E1 := Lib.hid e1; clear e1
    go_enter Try.func74, Try.ntmps74
    go_wp2
    go_ret
    exact ⟨by first | rfl | (rw [← E1.out]; rfl), rfl⟩
  · have e1 : (n.natAbs : Int) = n := by omega
    have E1 := Lib.hid e1; clear e1
    have h3 : 0 ≤ n := by omega
    go_enter Try.func74, Try.ntmps74
    go_wp2
    go_ret
    exact ⟨by first | rfl | (rw [E1.out]; rfl), rfl⟩

theorem mul64_any (x y : Nat) (hx : x < 18446744073709551616) (hy : y < 18446744073709551616) (w : World) :
    Calls Try.prog 78 #[.int .u64 x, .int .u64 y] w fun e w' => e = .returned (.tuple #[.int .u64 ((x * y / 18446744073709551616 : Nat) : Int), .int .u64 ((x * y % 18446744073709551616 : Nat) : Int)]) ∧ w = w' :=
  (Try.bits_Mul64 x y hx hy w).mono fun _ _ ⟨he, hw⟩ => ⟨he, hw.symm⟩
end Go.Proofs.Ytoikpkgogncdhaa
