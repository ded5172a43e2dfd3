/- The laws FixedRoot and FixedSquare of chapter 1, walked. -/
import Derived.Test.YtafmbnpcdhpppaaFxLaw2
import Derived.Test.YtafmbnpcdhpppaaFxSqP
import Derived.Test.YtafmbnpcdhpppaaFxSqR
namespace Go.Proofs.Ytafmbnpcdhpppaa
open Go.RowKit

theorem Rt.down {N : Nat} : ∀ (k n : Nat), k ≤ 42 → Rt N k n → ∃ n', Rt N 0 n' := by
  intro k
  induction k with
  | zero => intro n _ h; exact ⟨n, h⟩
  | succ k ih =>
    intro n hk h
    by_cases hx : (n + 2 ^ k) * (n + 2 ^ k) ≤ N
    · exact ih _ (by omega) (h.yes (by omega) hx)
    · exact ih _ (by omega) (h.no hx)
theorem rtN_spec {N : Nat} (h : N < 2 ^ 84) : rtN N * rtN N ≤ N ∧ N < (rtN N + 1) * (rtN N + 1) := by
  obtain ⟨n, hn⟩ := Rt.down 42 0 (Nat.le_refl _) (Rt.start h)
  rw [← hn.end_]
  exact ⟨hn.hle, hn.hgt⟩
theorem rtN_sq {m : Nat} (h : m * m < 2 ^ 84) : rtN (m * m) = m := by
  obtain ⟨h1, h2⟩ := rtN_spec h
  generalize rtN (m * m) = r at *
  rcases Nat.lt_trichotomy r m with hlt | heq | hgt
  · have : (r + 1) * (r + 1) ≤ m * m := Nat.mul_le_mul hlt hlt
    omega
  · exact heq
  · have : (m + 1) * (m + 1) ≤ r * r := Nat.mul_le_mul hgt hgt
    have h3 : m * m < (m + 1) * (m + 1) := by rw [Nat.add_mul, Nat.mul_add]; omega
    omega

set_option maxRecDepth 100000 in
set_option maxHeartbeats 1600000 in
theorem law_FixedRoot (a : Vl) (w : World) :
    Calls Try.prog 7 #[.agg #[.bool a.ok, .int .i64 a.n]] w fun e w' => e = .returned (.bool true) ∧ Gr w w' := by
  go_enter Try.func7, Try.ntmps7
  go_wp2
  have es : (w.alloc (.cells #[.bool a.ok, .int .i64 a.n] 23)).cell? ⟨w.heap.size, 0, none⟩ = some (.bool a.ok) ∧ (w.alloc (.cells #[.bool a.ok, .int .i64 a.n] 23)).cell? ⟨w.heap.size, 1, none⟩ = some (.int .i64 a.n) ∧ w.heap.size < (w.alloc (.cells #[.bool a.ok, .int .i64 a.n] 23)).heap.size := by
    refine ⟨?_, ?_, ?_⟩ <;> go_simp
  have hgr : Gr w (w.alloc (.cells #[.bool a.ok, .int .i64 a.n] 23)) := (by repeat (first | exact Gr.refl _ | refine Gr.alloc ?_ _ | refine Gr.drew ?_ | refine Gr.setCell ?_ (by first | (simp; done) | (simp; omega) | omega) _ | refine Gr.trans ?_ (by assumption)))
  go_region_held3 (fun W => W.cell? ⟨w.heap.size, 0, none⟩ = some (.bool a.ok) ∧ W.cell? ⟨w.heap.size, 1, none⟩ = some (.int .i64 a.n) ∧ w.heap.size < W.heap.size) (first | exact es | go_keep)
    (first
      | (go_at_call 25; refine (sqrt_any a _).mono ?_; rintro e w4 ⟨rfl, hg4⟩; have es := Gr.one hg4 es)
      | (go_at_call 26; refine (rsqrt_any a _).mono ?_; rintro e w4 ⟨rfl, hg4⟩; have es := Gr.one hg4 es)
      | (go_at_call 18; refine (known_any _).mono ?_; rintro e w4 ⟨rfl, hg4⟩; have es := Gr.one hg4 es))
  go_wp2
  go_ret
  exact ⟨rfl, (by repeat (first | exact Gr.refl _ | refine Gr.alloc ?_ _ | refine Gr.drew ?_ | refine Gr.setCell ?_ (by first | (simp; done) | (simp; omega) | omega) _ | refine Gr.trans ?_ (by assumption)))⟩

theorem sq_vals (n : Int) (h1 : -1000000 ≤ n) (h2 : n ≤ 1000000) : sqrtV (mulV (intV n) (intV n)) = absV (intV n) := by
  have e1 : intV n = ⟨true, n * 1000000⟩ := by
    have a1 : -4611686018427 ≤ n := by omega
    have a2 : n ≤ 4611686018427 := by omega
    simp only [intV, decide_eq_true a1, decide_eq_true a2, Bool.and_self, cond_true]
    exact ofV_in (by omega) (by omega)
  obtain ⟨m, hm⟩ : ∃ m : Nat, m = n.natAbs := ⟨_, rfl⟩
  have hmb : m ≤ 1000000 := by omega
  have hmm : m * m ≤ 1000000 * 1000000 := Nat.mul_le_mul hmb hmb
  have hab : (n * 1000000).natAbs = m * 1000000 := by rw [Int.natAbs_mul, ← hm]; rfl
  have hk : knB ⟨true, n * 1000000⟩ = true := (knB_iff _).2 ⟨rfl, by simp; omega, by simp; omega⟩
  have hP : (n * 1000000).natAbs * (n * 1000000).natAbs = (m * m * 1000000) * 1000000 + 0 := by
    rw [hab, Nat.mul_mul_mul_comm, Nat.add_zero, Nat.mul_assoc (m * m)]
  have hq : rq ((n * 1000000).natAbs * (n * 1000000).natAbs) (1000000 : Int).natAbs = m * m * 1000000 := by
    have := rq_of (P := (n * 1000000).natAbs * (n * 1000000).natAbs) (d := 1000000) (m * m * 1000000) 0 (by decide) hP (by decide)
    rw [if_neg (by decide), Nat.add_zero] at this
    rw [show (1000000 : Int).natAbs = 1000000 from rfl]
    exact this
  have hok : mdOk (n * 1000000) (n * 1000000) 1000000 = true := mdOk_yes (by decide) (by rw [hq]; omega)
  have hn : mdN (n * 1000000) (n * 1000000) 1000000 = ((m * m * 1000000 : Nat) : Int) := by
    unfold mdN
    rw [hok, hq, show mdNeg (n * 1000000) (n * 1000000) 1000000 = false from by unfold mdNeg; simp]
    rfl
  have e2 : mulV (intV n) (intV n) = ⟨true, ((m * m * 1000000 : Nat) : Int)⟩ := by
    rw [e1]
    unfold mulV
    rw [hk, Bool.and_self, cond_true]
    unfold mdV
    rw [hok, cond_true, hn]
    exact ofV_in (by omega) (by omega)
  have hk2 : knB ⟨true, ((m * m * 1000000 : Nat) : Int)⟩ = true := (knB_iff _).2 ⟨rfl, by show _ ≤ ((m * m * 1000000 : Nat) : Int); omega, by show ((m * m * 1000000 : Nat) : Int) ≤ _; omega⟩
  have e3 : sqrtV ⟨true, ((m * m * 1000000 : Nat) : Int)⟩ = ofV ((m * 1000000 : Nat) : Int) := by
    unfold sqrtV
    rw [hk2, Int.toNat_natCast, decide_eq_true (Int.natCast_nonneg _), Bool.and_self, cond_true]
    have h84 : (m * 1000000) * (m * 1000000) < 2 ^ 84 := by
      have h1 : (m * 1000000) * (m * 1000000) ≤ 1000000000000 * 1000000000000 := Nat.mul_le_mul (by omega) (by omega)
      have : (2 : Nat) ^ 84 = 19342813113834066795298816 := by decide
      omega
    rw [show m * m * 1000000 * 1000000 = (m * 1000000) * (m * 1000000) from by rw [Nat.mul_mul_mul_comm, Nat.mul_assoc (m * m)], rtN_sq h84]
  rw [e2, e3, e1]
  unfold absV
  rw [hk, cond_true]
  congr 1
  show _ = max (n * 1000000) (-(n * 1000000))
  omega

set_option maxRecDepth 100000 in
set_option maxHeartbeats 1600000 in
theorem law_FixedSquare (n : Int) (b1 : -9223372036854775808 ≤ n) (b2 : n ≤ 9223372036854775807) (w : World) :
    Calls Try.prog 9 #[.int .i64 n] w fun e w' => e = .returned (.bool true) ∧ Gr w w' := by
  by_cases g0 : n < -1000000
  · go_enter Try.func9, Try.ntmps9
    go_wp2_with fail
    refine (known_any _).mono ?_; rintro e w1 ⟨rfl, hg⟩
    go_wp2
    go_ret
    exact ⟨rfl, (by repeat (first | exact Gr.refl _ | refine Gr.alloc ?_ _ | refine Gr.drew ?_ | refine Gr.setCell ?_ (by first | (simp; done) | (simp; omega) | omega) _ | refine Gr.trans ?_ (by assumption)))⟩
  by_cases g1 : 1000000 < n
  · go_enter Try.func9, Try.ntmps9
    go_wp2_with fail
    refine (known_any _).mono ?_; rintro e w1 ⟨rfl, hg⟩
    go_wp2
    go_ret
    exact ⟨rfl, (by repeat (first | exact Gr.refl _ | refine Gr.alloc ?_ _ | refine Gr.drew ?_ | refine Gr.setCell ?_ (by first | (simp; done) | (simp; omega) | omega) _ | refine Gr.trans ?_ (by assumption)))⟩
  have SQ := sqrt_any (mulV (intV n) (intV n))
  rw [sq_vals n (by omega) (by omega)] at SQ
  have HSQ := Lib.hid SQ
  clear SQ
  go_enter Try.func9, Try.ntmps9
  go_wp2_with fail
  refine (int_any n _).mono ?_; rintro e w1 ⟨rfl, hg⟩
  go_wp2
  obtain ⟨C, hC⟩ : ∃ C, C = w1.heap.size := ⟨_, rfl⟩
  rw [← hC]
  have es : (w1.alloc (.cells #[.bool (intV n).ok, .int .i64 (intV n).n] 23)).cell? ⟨C, 0, none⟩ = some (.bool (intV n).ok) ∧ (w1.alloc (.cells #[.bool (intV n).ok, .int .i64 (intV n).n] 23)).cell? ⟨C, 1, none⟩ = some (.int .i64 (intV n).n) ∧ C < (w1.alloc (.cells #[.bool (intV n).ok, .int .i64 (intV n).n] 23)).heap.size := by
    rw [hC]
    refine ⟨?_, ?_, ?_⟩ <;> go_simp
  have hgr : Gr w (w1.alloc (.cells #[.bool (intV n).ok, .int .i64 (intV n).n] 23)) := (by repeat (first | exact Gr.refl _ | refine Gr.alloc ?_ _ | refine Gr.drew ?_ | refine Gr.setCell ?_ (by first | (simp; done) | (simp; omega) | omega) _ | refine Gr.trans ?_ (by assumption)))
  clear hC
  go_region_held3 (fun W => W.cell? ⟨C, 0, none⟩ = some (.bool (intV n).ok) ∧ W.cell? ⟨C, 1, none⟩ = some (.int .i64 (intV n).n) ∧ C < W.heap.size) (first | exact es | go_keep)
    (first
      | (go_at_call 21; refine (mul_any (intV n) (intV n) _).mono ?_; rintro e w4 ⟨rfl, hg4⟩; have es := Gr.one hg4 es)
      | (go_at_call 25; refine (HSQ.out _).mono ?_; rintro e w4 ⟨rfl, hg4⟩; have es := Gr.one hg4 es)
      | (go_at_call 29; refine (abs_any (intV n) _).mono ?_; rintro e w4 ⟨rfl, hg4⟩; have es := Gr.one hg4 es)
      | (go_at_call 18; refine (known_any _).mono ?_; rintro e w4 ⟨rfl, hg4⟩; have es := Gr.one hg4 es))
  go_wp2
  go_ret
  exact ⟨rfl, (by repeat (first | exact Gr.refl _ | refine Gr.alloc ?_ _ | refine Gr.drew ?_ | refine Gr.setCell ?_ (by first | (simp; done) | (simp; omega) | omega) _ | refine Gr.trans ?_ (by assumption)))⟩
end Go.Proofs.Ytafmbnpcdhpppaa
