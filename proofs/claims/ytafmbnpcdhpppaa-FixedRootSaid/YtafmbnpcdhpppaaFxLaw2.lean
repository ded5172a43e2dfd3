/- The laws FixedOf, FixedHalves, FixedBack of chapter 1, walked over the contracts. -/
import Derived.Test.YtafmbnpcdhpppaaFxLaw
namespace Go.Proofs.Ytafmbnpcdhpppaa
open Go.RowKit

/-- a boxed value is kept. -/
theorem Gr.one {W W1 : World} {B : Nat} {a : Vl} (g : Gr W W1) (h : W.cell? ⟨B, 0, none⟩ = some (.bool a.ok) ∧ W.cell? ⟨B, 1, none⟩ = some (.int .i64 a.n) ∧ B < W.heap.size) :
    W1.cell? ⟨B, 0, none⟩ = some (.bool a.ok) ∧ W1.cell? ⟨B, 1, none⟩ = some (.int .i64 a.n) ∧ B < W1.heap.size := by
  obtain ⟨h0, h1, hz⟩ := h
  have z := g.size
  exact ⟨(g.cell (p := ⟨B, 0, none⟩) hz).trans h0, (g.cell (p := ⟨B, 1, none⟩) hz).trans h1, by omega⟩

set_option maxRecDepth 100000 in
set_option maxHeartbeats 1600000 in
theorem law_FixedOf (n : Int) (a : Vl) (w : World) :
    Calls Try.prog 3 #[.int .i64 n, .agg #[.bool a.ok, .int .i64 a.n]] w fun e w' => e = .returned (.bool true) ∧ Gr w w' := by
  go_enter Try.func3, Try.ntmps3
  go_wp2
  have es : (w.alloc (.cells #[.bool a.ok, .int .i64 a.n] 23)).cell? ⟨w.heap.size, 0, none⟩ = some (.bool a.ok) ∧ (w.alloc (.cells #[.bool a.ok, .int .i64 a.n] 23)).cell? ⟨w.heap.size, 1, none⟩ = some (.int .i64 a.n) ∧ w.heap.size < (w.alloc (.cells #[.bool a.ok, .int .i64 a.n] 23)).heap.size := by
    refine ⟨?_, ?_, ?_⟩ <;> go_simp
  have hgr : Gr w (w.alloc (.cells #[.bool a.ok, .int .i64 a.n] 23)) := (by repeat (first | exact Gr.refl _ | refine Gr.alloc ?_ _ | refine Gr.drew ?_ | refine Gr.setCell ?_ (by first | (simp; done) | (simp; omega) | omega) _ | refine Gr.trans ?_ (by assumption)))
  go_region_held3 (fun W => W.cell? ⟨w.heap.size, 0, none⟩ = some (.bool a.ok) ∧ W.cell? ⟨w.heap.size, 1, none⟩ = some (.int .i64 a.n) ∧ w.heap.size < W.heap.size) (first | exact es | go_keep)
    (first
      | (go_at_call 12; refine (of_any n _).mono ?_; rintro e w1 ⟨rfl, hg⟩; have es := Gr.one hg es)
      | (go_at_call 13; refine (rof_any n _).mono ?_; rintro e w1 ⟨rfl, hg⟩; have es := Gr.one hg es)
      | (go_at_call 14; refine (int_any n _).mono ?_; rintro e w1 ⟨rfl, hg⟩; have es := Gr.one hg es)
      | (go_at_call 15; refine (rint_any n _).mono ?_; rintro e w1 ⟨rfl, hg⟩; have es := Gr.one hg es)
      | (go_at_call 16; refine (is_any a.ok a.n _).mono ?_; rintro e w1 ⟨rfl, hg⟩; have es := Gr.one hg es)
      | (go_at_call 17; refine (ris_any a.ok a.n _).mono ?_; rintro e w1 ⟨rfl, hg⟩; have es := Gr.one hg es)
      | (go_at_call 18; refine (known_any _).mono ?_; rintro e w1 ⟨rfl, hg⟩; have es := Gr.one hg es))
  go_wp2
  go_ret
  exact ⟨rfl, (by repeat (first | exact Gr.refl _ | refine Gr.alloc ?_ _ | refine Gr.drew ?_ | refine Gr.setCell ?_ (by first | (simp; done) | (simp; omega) | omega) _ | refine Gr.trans ?_ (by assumption)))⟩

/-- what is rounded. -/
def halfN (q c r : Int) : Int := if c < 2 * r ∨ (2 * r = c ∧ 0 < q * c + r) then q + 1 else q

theorem rq_of {P d : Nat} (Q R : Nat) (hd : 0 < d) (h : P = Q * d + R) (hR : R < d) : rq P d = Q + (if d - R ≤ R then 1 else 0) := by
  have e1 : P / d = Q := by rw [h, Nat.mul_comm, Nat.mul_add_div hd, Nat.div_eq_of_lt hR, Nat.add_zero]
  have e2 : P % d = R := by rw [h, Nat.mul_comm, Nat.mul_add_mod, Nat.mod_eq_of_lt hR]
  unfold rq; rw [e1, e2]

theorem half_core {q c r : Int} (hq1 : -1073741824 ≤ q) (hq2 : q ≤ 1073741824) (hc1 : 1 ≤ c) (hc2 : c ≤ 1048576) (hr1 : 0 ≤ r) (hr2 : r < c) :
    rq (q * c + r).natAbs c.natAbs = (halfN q c r).natAbs ∧ (0 ≤ q * c + r → 0 ≤ halfN q c r) ∧ (q * c + r < 0 → halfN q c r ≤ 0) ∧ rq (q * c + r).natAbs c.natAbs ≤ 4611686018427387904 := by
  obtain ⟨C, hC⟩ : ∃ C : Nat, c = (C : Int) := ⟨c.toNat, by omega⟩
  obtain ⟨R, hR⟩ : ∃ R : Nat, r = (R : Int) := ⟨r.toNat, by omega⟩
  subst hC hR
  have hC0 : 0 < C := by omega
  have hRC : R < C := by omega
  have key : rq (q * C + R).natAbs (C : Int).natAbs = (halfN q C R).natAbs ∧ (0 ≤ q * C + R → 0 ≤ halfN q C R) ∧ (q * C + R < 0 → halfN q C R ≤ 0) := by
    rw [Int.natAbs_natCast]
    by_cases h0 : 0 ≤ q
    · obtain ⟨Q, hQ⟩ : ∃ Q : Nat, q = (Q : Int) := ⟨q.toNat, by omega⟩
      subst hQ
      have hp : ((Q : Int) * C + R) = ((Q * C + R : Nat) : Int) := by rw [Int.natCast_add, Int.natCast_mul]
      have e := rq_of (P := Q * C + R) Q R hC0 rfl hRC
      unfold halfN
      rw [hp, Int.natAbs_natCast, e]
      refine ⟨?_, ?_, ?_⟩
      · split
        · rw [if_pos (by omega)]; omega
        · by_cases hz : 2 * (R : Int) = C
          · rw [if_pos (Or.inr ⟨hz, by omega⟩)]; omega
          · omega
      · intro _; split <;> omega
      · intro h; omega
    · obtain ⟨Q, hQ⟩ : ∃ Q : Nat, q = -((Q : Int) + 1) := ⟨(-q - 1).toNat, by omega⟩
      subst hQ
      have hp : (-((Q : Int) + 1)) * C + R = -((Q * C + (C - R) : Nat) : Int) := by
        rw [Int.natCast_add, Int.natCast_mul, Int.natCast_sub (by omega), Int.neg_mul, Int.add_mul]; omega
      unfold halfN
      rw [hp, Int.natAbs_neg, Int.natAbs_natCast]
      rcases Nat.eq_zero_or_pos R with hr0 | hr0
      · subst hr0
        have e := rq_of (P := Q * C + (C - 0)) (Q + 1) 0 hC0 (by rw [Nat.add_mul]; omega) hC0
        rw [e, if_neg (by omega), if_neg (by omega)]
        exact ⟨by omega, fun h => by omega, fun _ => by omega⟩
      · have e := rq_of (P := Q * C + (C - R)) Q (C - R) hC0 rfl (by omega)
        rw [e]
        by_cases h1 : C < 2 * R
        · rw [if_neg (by omega), if_pos (Or.inl (by omega))]
          exact ⟨by omega, fun h => by omega, fun _ => by omega⟩
        · rw [if_pos (by omega), if_neg (by omega)]
          exact ⟨by omega, fun h => by omega, fun _ => by omega⟩
  refine ⟨key.1, key.2.1, key.2.2, ?_⟩
  rw [key.1]
  unfold halfN
  split <;> omega

theorem half_a {q c r : Int} (hq1 : -1073741824 ≤ q) (hq2 : q ≤ 1073741824) (hc1 : 1 ≤ c) (hc2 : c ≤ 1048576) (hr1 : 0 ≤ r) (hr2 : r < c) :
    mdOk (q * c + r) 1 c = true ∧ mdN (q * c + r) 1 c = halfN q c r := by
  obtain ⟨k1, k2, k3, k4⟩ := half_core hq1 hq2 hc1 hc2 hr1 hr2
  have hok : mdOk (q * c + r) 1 c = true := mdOk_yes (by omega) (by rw [show (1 : Int).natAbs = 1 from rfl, Nat.mul_one]; exact k4)
  refine ⟨hok, ?_⟩
  have hcn : decide (c < 0) = false := by simp; omega
  unfold mdN mdNeg
  rw [hok, hcn, show (1 : Int).natAbs = 1 from rfl, Nat.mul_one, k1]
  by_cases h : q * c + r < 0
  · have := k3 h
    simp [h]; omega
  · have := k2 (by omega)
    simp [h]; omega
theorem half_b {q c r : Int} (hq1 : -1073741824 ≤ q) (hq2 : q ≤ 1073741824) (hc1 : 1 ≤ c) (hc2 : c ≤ 1048576) (hr1 : 0 ≤ r) (hr2 : r < c) :
    mdOk 1 (-(q * c + r)) (-c) = true ∧ mdN 1 (-(q * c + r)) (-c) = halfN q c r := by
  obtain ⟨k1, k2, k3, k4⟩ := half_core hq1 hq2 hc1 hc2 hr1 hr2
  have hok : mdOk 1 (-(q * c + r)) (-c) = true := mdOk_yes (by omega) (by rw [show (1 : Int).natAbs = 1 from rfl, Nat.one_mul, Int.natAbs_neg, Int.natAbs_neg]; exact k4)
  refine ⟨hok, ?_⟩
  have hcn : decide (-c < 0) = true := by simp; omega
  unfold mdN mdNeg
  rw [hok, hcn, show (1 : Int).natAbs = 1 from rfl, Nat.one_mul, Int.natAbs_neg, Int.natAbs_neg, k1]
  generalize q * c + r = a at *
  by_cases h : a ≤ 0
  · by_cases h0 : a = 0
    · subst h0
      have := k2 (by omega)
      rw [Int.natAbs_zero] at k1
      have hz : rq 0 c.natAbs = 0 := by unfold rq; simp; omega
      rw [hz] at k1
      simp; omega
    · have := k3 (by omega)
      have h1 : ¬ 0 < a := by omega
      simp [h1]; omega
  · have := k2 (by omega)
    have h1 : 0 < a := by omega
    simp [h1]; omega
end Go.Proofs.Ytafmbnpcdhpppaa
