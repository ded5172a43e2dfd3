/- Plain laws for AggBetween (chapter 6): the mean lies between the least and the greatest. -/
import Derived.Test.YtoojjejdbpkbhaaAgPlain
namespace Go.Proofs.Ytoojjejdbpkbhaa

theorem rq_le {P M d : Nat} (hd : 0 < d) (h : P ≤ M * d) : rq P d ≤ M := by
  have h1 : P / d ≤ M := Nat.div_le_of_le_mul (by rw [Nat.mul_comm]; exact h)
  unfold rq
  by_cases hu : d - P % d ≤ P % d
  · rw [if_pos hu]
    rcases Nat.lt_or_ge (P / d) M with hl | hl
    · omega
    · have e : P / d = M := by omega
      have h2 := Nat.div_add_mod P d
      rw [e, Nat.mul_comm] at h2
      have : P % d = 0 := by omega
      omega
  · rw [if_neg hu]; omega
theorem rq_lo {P M d : Nat} (hd : 0 < d) (h : M * d ≤ P) : M ≤ rq P d :=
  Nat.le_trans ((Nat.le_div_iff_mul_le hd).2 h) (rq_ge P d)

theorem none_from (K : List Vl) : K.foldl sumV ⟨false, 0⟩ = ⟨false, 0⟩ := by
  induction K with
  | nil => rfl
  | cons a r ih =>
    rw [List.foldl_cons]
    have e : sumV ⟨false, 0⟩ a = ⟨false, 0⟩ := by simp [sumV, knB]
    rw [e, ih]
theorem sum_from {K : List Vl} (hK : ∀ v ∈ K, knB v = true) : ∀ {s : Vl}, knB s = true → (K.foldl sumV s).ok = true → (K.foldl sumV s).n = s.n + sumN K := by
  induction K with
  | nil => intro s _ _; simp [sumN]
  | cons a r ih =>
    intro s hs h
    have ha := hK a (by simp)
    rw [List.foldl_cons] at h ⊢
    have e : sumV s a = ofV (s.n + a.n) := by simp [sumV, hs, ha]
    rw [e] at h ⊢
    cases hb : isB ⟨true, s.n + a.n⟩
    · have e2 : ofV (s.n + a.n) = ⟨false, 0⟩ := by simp [ofV, hb]
      rw [e2, none_from] at h
      cases h
    · have e2 : ofV (s.n + a.n) = ⟨true, s.n + a.n⟩ := by simp [ofV, hb]
      rw [e2] at h ⊢
      rw [ih (fun v hv => hK v (by simp [hv])) (by simp [knB, hb]) h, sumN_cons]
      show s.n + a.n + sumN r = _
      omega
theorem sum_lo {K : List Vl} {lo : Int} (h : ∀ v ∈ K, lo ≤ v.n) : (K.length : Int) * lo ≤ sumN K := by
  induction K with
  | nil => simp [sumN]
  | cons a r ih =>
    have h1 := h a (by simp)
    have h2 := ih (fun v hv => h v (by simp [hv]))
    rw [sumN_cons, List.length_cons, Int.natCast_add, Int.add_mul]
    simp only [Int.natCast_one, Int.one_mul]
    omega
theorem sum_hi {K : List Vl} {hi : Int} (h : ∀ v ∈ K, v.n ≤ hi) : sumN K ≤ (K.length : Int) * hi := by
  induction K with
  | nil => simp [sumN]
  | cons a r ih =>
    have h1 := h a (by simp)
    have h2 := ih (fun v hv => h v (by simp [hv]))
    rw [sumN_cons, List.length_cons, Int.natCast_add, Int.add_mul]
    simp only [Int.natCast_one, Int.one_mul]
    omega

/-- a quotient lies between whole numbers between which it lies. -/
theorem md_between {S n lo hi : Int} (hn : 0 < n) (h1 : n * lo ≤ S) (h2 : S ≤ n * hi) (h : mdOk S 1000000 (n * 1000000) = true) :
    lo ≤ mdN S 1000000 (n * 1000000) ∧ mdN S 1000000 (n * 1000000) ≤ hi := by
  obtain ⟨d, hd⟩ : ∃ d : Nat, d = (n * 1000000).natAbs := ⟨_, rfl⟩
  have hdn : (d : Int) = n * 1000000 := by omega
  have hd0 : 0 < d := by omega
  have e6 : (1000000 : Int).natAbs = 1000000 := rfl
  have c1 : decide ((1000000 : Int) < 0) = false := rfl
  have c2 : decide (n * 1000000 < 0) = false := decide_eq_false (by omega)
  unfold mdN
  rw [h, cond_true, ← hd, e6]
  by_cases hs : S < 0
  · have hneg : mdNeg S 1000000 (n * 1000000) = true := by unfold mdNeg; rw [c1, c2, decide_eq_true hs]; rfl
    rw [hneg, cond_true]
    have hlo : lo < 0 := by
      rcases Int.lt_or_le lo 0 with h' | h'
      · exact h'
      · have := Int.mul_nonneg (Int.le_of_lt hn) h'; omega
    constructor
    · have : rq (S.natAbs * 1000000) d ≤ lo.natAbs := by
        refine rq_le hd0 ?_
        have : ((S.natAbs * 1000000 : Nat) : Int) ≤ ((lo.natAbs * d : Nat) : Int) := by
          rw [Int.natCast_mul, Int.natCast_mul, hdn, show (lo.natAbs : Int) = -lo by omega, show (S.natAbs : Int) = -S by omega]
          have e : -lo * (n * 1000000) = -(n * lo) * 1000000 := by rw [← Int.mul_assoc, Int.neg_mul, Int.mul_comm lo n]
          rw [e]; omega
        exact_mod_cast this
      omega
    · rcases Int.lt_or_le hi 0 with h' | h'
      · have : hi.natAbs ≤ rq (S.natAbs * 1000000) d := by
          refine rq_lo hd0 ?_
          have : ((hi.natAbs * d : Nat) : Int) ≤ ((S.natAbs * 1000000 : Nat) : Int) := by
            rw [Int.natCast_mul, Int.natCast_mul, hdn, show (hi.natAbs : Int) = -hi by omega, show (S.natAbs : Int) = -S by omega]
            have e : -hi * (n * 1000000) = -(n * hi) * 1000000 := by rw [← Int.mul_assoc, Int.neg_mul, Int.mul_comm hi n]
            rw [e]; omega
          exact_mod_cast this
        omega
      · omega
  · have hneg : mdNeg S 1000000 (n * 1000000) = false := by unfold mdNeg; rw [c1, c2, decide_eq_false hs]; rfl
    rw [hneg, cond_false]
    have hhi : 0 ≤ hi := by
      rcases Int.lt_or_le hi 0 with h' | h'
      · have := Int.mul_neg_of_pos_of_neg hn h'; omega
      · exact h'
    constructor
    · rcases Int.lt_or_le lo 0 with h' | h'
      · omega
      · have : lo.natAbs ≤ rq (S.natAbs * 1000000) d := by
          refine rq_lo hd0 ?_
          have : ((lo.natAbs * d : Nat) : Int) ≤ ((S.natAbs * 1000000 : Nat) : Int) := by
            rw [Int.natCast_mul, Int.natCast_mul, hdn, show (lo.natAbs : Int) = lo by omega, show (S.natAbs : Int) = S by omega]
            have e : lo * (n * 1000000) = (n * lo) * 1000000 := by rw [← Int.mul_assoc, Int.mul_comm lo n]
            rw [e]; omega
          exact_mod_cast this
        omega
    · have : rq (S.natAbs * 1000000) d ≤ hi.natAbs := by
        refine rq_le hd0 ?_
        have : ((S.natAbs * 1000000 : Nat) : Int) ≤ ((hi.natAbs * d : Nat) : Int) := by
          rw [Int.natCast_mul, Int.natCast_mul, hdn, show (hi.natAbs : Int) = hi by omega, show (S.natAbs : Int) = S by omega]
          have e : hi * (n * 1000000) = (n * hi) * 1000000 := by rw [← Int.mul_assoc, Int.mul_comm hi n]
          rw [e]; omega
        exact_mod_cast this
      omega

theorem lessB_no {a b : Vl} (h : b.n ≤ a.n) : lessB a b = false := by
  have : ¬ a.n < b.n := by omega
  simp [lessB, this]

/-- the mean of known values, if it can be told. -/
theorem mean_between {K : List Vl} {lo hi : Int} (h0 : 0 < K.length) (hl : K.length ≤ 200) (hK : ∀ v ∈ K, knB v = true) (h1 : ∀ v ∈ K, lo ≤ v.n) (h2 : ∀ v ∈ K, v.n ≤ hi)
    (hok : (divV (addV K) (intV (K.length : Nat))).ok = true) : lo ≤ (divV (addV K) (intV (K.length : Nat))).n ∧ (divV (addV K) (intV (K.length : Nat))).n ≤ hi := by
  have hi' : intV (K.length : Nat) = ⟨true, (K.length : Int) * 1000000⟩ := by
    unfold intV
    rw [decide_eq_true (by omega), decide_eq_true (by omega), Bool.and_self, cond_true]
    exact ofV_in (by omega) (by omega)
  have hik : knB (intV (K.length : Nat)) = true := by rw [hi', knB_iff]; refine ⟨rfl, ?_, ?_⟩ <;> simp only <;> omega
  cases hs : knB (addV K)
  · simp [divV, hs] at hok
  · have e : divV (addV K) (intV (K.length : Nat)) = mdV (addV K).n 1000000 ((K.length : Int) * 1000000) := by
      unfold divV; rw [hs, hik, Bool.and_self, cond_true, hi']
    rw [e] at hok ⊢
    have hz : knB (ofV 0) = true := by rw [ofV_in (by omega) (by omega)]; rfl
    have hsum : (addV K).n = sumN K := by
      have := sum_from hK hz (knB_ok hs)
      rw [ofV_in (by omega) (by omega)] at this
      unfold addV; rw [ofV_in (by omega) (by omega), this]; simp only; omega
    rw [hsum] at hok ⊢
    cases hm : mdOk (sumN K) 1000000 ((K.length : Int) * 1000000)
    · simp [mdV, hm] at hok
    · have hb := md_between (n := (K.length : Int)) (by omega) (sum_lo h1) (sum_hi h2) hm
      unfold mdV at hok ⊢
      rw [hm, cond_true] at hok ⊢
      cases hq : isB ⟨true, mdN (sumN K) 1000000 ((K.length : Int) * 1000000)⟩
      · simp [ofV, hq] at hok
      · have e3 : ofV (mdN (sumN K) 1000000 ((K.length : Int) * 1000000)) = ⟨true, mdN (sumN K) 1000000 ((K.length : Int) * 1000000)⟩ := by simp [ofV, hq]
        rw [e3]; exact hb

/-- what AggBetween says of known values. -/
theorem betw {K : List Vl} (h0 : 0 < K.length) (hl : K.length ≤ 200) (hK : ∀ v ∈ K, knB v = true) :
    (∀ i (h : i < K.length), lessB K[i] (minV K[0] K) = false ∧ lessB (maxV K[0] K) K[i] = false) ∧
    ((divV (addV K) (intV (K.length : Nat))).ok = true → lessB (divV (addV K) (intV (K.length : Nat))) (minV K[0] K) = false ∧ lessB (maxV K[0] K) (divV (addV K) (intV (K.length : Nat))) = false) := by
  have hx := hK K[0] (List.getElem_mem h0)
  obtain ⟨a1, a2, a3, a4⟩ := max_is hK hx
  obtain ⟨b1, b2, b3, b4⟩ := min_is hK hx
  refine ⟨fun i h => ⟨lessB_no (b3 _ (List.getElem_mem h)), lessB_no (a3 _ (List.getElem_mem h))⟩, fun hok => ?_⟩
  obtain ⟨m1, m2⟩ := mean_between h0 hl hK b3 a3 hok
  exact ⟨lessB_no m1, lessB_no m2⟩
end Go.Proofs.Ytoojjejdbpkbhaa
