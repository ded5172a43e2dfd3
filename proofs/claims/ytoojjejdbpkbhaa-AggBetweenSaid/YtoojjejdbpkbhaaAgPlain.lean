/- Plain laws of many values as one (chapter 6): the greatest and the least, the sum in whatever order. -/
import Derived.Test.YtoojjejdbpkbhaaAgOfR
namespace Go.Proofs.Ytoojjejdbpkbhaa

theorem max_is {K : List Vl} (hK : ∀ v ∈ K, knB v = true) : ∀ {x : Vl}, knB x = true → (maxV x K = x ∨ maxV x K ∈ K) ∧ x.n ≤ (maxV x K).n ∧ (∀ v ∈ K, v.n ≤ (maxV x K).n) ∧ knB (maxV x K) = true := by
  induction K with
  | nil => intro x hx; exact ⟨.inl rfl, Int.le_refl _, fun v h => (by cases h), hx⟩
  | cons a r ih =>
    intro x hx
    have ha : knB a = true := hK a (by simp)
    have e : maxV x (a :: r) = maxV (bif lessB x a then a else x) r := rfl
    have hl := lessB_kn hx ha
    rw [e, hl]
    by_cases h : x.n < a.n
    · rw [decide_eq_true h, cond_true]
      obtain ⟨h1, h2, h3, h4⟩ := ih (fun v hv => hK v (by simp [hv])) ha
      refine ⟨.inr ?_, by omega, fun v hv => ?_, h4⟩
      · rcases h1 with h1 | h1
        · rw [h1]; simp
        · simp [h1]
      · rcases List.mem_cons.1 hv with rfl | hv
        · exact h2
        · exact h3 v hv
    · rw [decide_eq_false h, cond_false]
      obtain ⟨h1, h2, h3, h4⟩ := ih (fun v hv => hK v (by simp [hv])) hx
      refine ⟨?_, h2, fun v hv => ?_, h4⟩
      · rcases h1 with h1 | h1
        · exact .inl h1
        · exact .inr (by simp [h1])
      · rcases List.mem_cons.1 hv with rfl | hv
        · omega
        · exact h3 v hv
theorem min_is {K : List Vl} (hK : ∀ v ∈ K, knB v = true) : ∀ {x : Vl}, knB x = true → (minV x K = x ∨ minV x K ∈ K) ∧ (minV x K).n ≤ x.n ∧ (∀ v ∈ K, (minV x K).n ≤ v.n) ∧ knB (minV x K) = true := by
  induction K with
  | nil => intro x hx; exact ⟨.inl rfl, Int.le_refl _, fun v h => (by cases h), hx⟩
  | cons a r ih =>
    intro x hx
    have ha : knB a = true := hK a (by simp)
    have e : minV x (a :: r) = minV (bif lessB a x then a else x) r := rfl
    have hl := lessB_kn ha hx
    rw [e, hl]
    by_cases h : a.n < x.n
    · rw [decide_eq_true h, cond_true]
      obtain ⟨h1, h2, h3, h4⟩ := ih (fun v hv => hK v (by simp [hv])) ha
      refine ⟨.inr ?_, by omega, fun v hv => ?_, h4⟩
      · rcases h1 with h1 | h1
        · rw [h1]; simp
        · simp [h1]
      · rcases List.mem_cons.1 hv with rfl | hv
        · exact h2
        · exact h3 v hv
    · rw [decide_eq_false h, cond_false]
      obtain ⟨h1, h2, h3, h4⟩ := ih (fun v hv => hK v (by simp [hv])) hx
      refine ⟨?_, h2, fun v hv => ?_, h4⟩
      · rcases h1 with h1 | h1
        · exact .inl h1
        · exact .inr (by simp [h1])
      · rcases List.mem_cons.1 hv with rfl | hv
        · omega
        · exact h3 v hv
theorem vl_eq {a b : Vl} (ha : knB a = true) (hb : knB b = true) (h : a.n = b.n) : a = b := by
  obtain ⟨o, n⟩ := a; obtain ⟨o', n'⟩ := b
  have h1 := knB_ok ha; have h2 := knB_ok hb
  simp only at h h1 h2; subst h h1 h2; rfl

/-- the sum of the numbers. -/
def sumN (l : List Vl) : Int := l.foldl (fun s v => s + v.n) 0
theorem sumN_from (l : List Vl) : ∀ s : Int, l.foldl (fun s v => s + v.n) s = s + sumN l := by
  unfold sumN
  induction l with
  | nil => intro s; simp
  | cons a r ih => intro s; simp only [List.foldl_cons]; rw [ih (s + a.n), ih (0 + a.n)]; omega
theorem sumN_cons (a : Vl) (r : List Vl) : sumN (a :: r) = a.n + sumN r := by
  have := sumN_from r (0 + a.n); simp only [sumN, List.foldl_cons] at this ⊢; rw [this]; omega
theorem sumN_app (l m : List Vl) : sumN (l ++ m) = sumN l + sumN m := by
  induction l with
  | nil => simp [sumN]
  | cons a r ih => rw [List.cons_append, sumN_cons, sumN_cons, ih]; omega
theorem sumN_rev (l : List Vl) : sumN l.reverse = sumN l := by
  induction l with
  | nil => rfl
  | cons a r ih => rw [List.reverse_cons, sumN_app, ih, sumN_cons, sumN_cons]; simp [sumN]; omega

/-- values of which no sum on the way is too much are added as numbers. -/
theorem add_from {K : List Vl} : ∀ {n : Nat} {s : Int}, (∀ v ∈ K, knB v = true ∧ -1125899906842624 ≤ v.n ∧ v.n ≤ 1125899906842624) → n + K.length ≤ 200 → -(n * 1125899906842624 : Int) ≤ s → s ≤ n * 1125899906842624 →
    K.foldl sumV ⟨true, s⟩ = ⟨true, s + sumN K⟩ := by
  induction K with
  | nil => intro n s _ _ _ _; simp [sumN]
  | cons a r ih =>
    intro n s hK hn h1 h2
    obtain ⟨ha, h3, h4⟩ := hK a (by simp)
    simp only [List.length_cons] at hn
    have hs : knB ⟨true, s⟩ = true := by rw [knB_iff]; refine ⟨rfl, ?_, ?_⟩ <;> simp only <;> omega
    have e : sumV ⟨true, s⟩ a = ⟨true, s + a.n⟩ := by
      unfold sumV; rw [hs, ha]
      simp only [Bool.and_self, cond_true]
      exact ofV_in (by omega) (by omega)
    rw [List.foldl_cons, e, ih (n := n + 1) (fun v hv => hK v (by simp [hv])) (by omega) (by omega) (by omega), sumN_cons]
    congr 1; omega
theorem add_small {K : List Vl} (hK : ∀ v ∈ K, knB v = true ∧ -1125899906842624 ≤ v.n ∧ v.n ≤ 1125899906842624) (hl : K.length ≤ 200) : addV K = ⟨true, sumN K⟩ := by
  unfold addV
  rw [ofV_in (by omega) (by omega), add_from (n := 0) hK (by omega) (by omega) (by omega)]
  congr 1; omega

theorem kn_rev (l : List Vl) : kn l.reverse = (kn l).reverse := by unfold kn; exact List.filter_reverse ..

/-- in whatever order: the sum, the mean, the greatest, the least. -/
theorem agg_rev (k : Int) (l : List Vl) (hk : k ≠ 3) (hl : l.length ≤ 200) (h : ∀ v ∈ l, -1125899906842624 ≤ v.n ∧ v.n ≤ 1125899906842624) : aggV k l.reverse = aggV k l := by
  unfold aggV
  rw [kn_rev]
  have hkl := kn_len l
  have hK : ∀ v ∈ kn l, knB v = true ∧ -1125899906842624 ≤ v.n ∧ v.n ≤ 1125899906842624 := by
    intro v hv
    have := List.mem_filter.1 hv
    exact ⟨this.2, h v this.1⟩
  generalize kn l = K at *
  have hKr : ∀ v ∈ K.reverse, knB v = true ∧ -1125899906842624 ≤ v.n ∧ v.n ≤ 1125899906842624 := fun v hv => hK v (by simpa using hv)
  have hsum : addV K.reverse = addV K := by
    rw [add_small hK (by omega), add_small hKr (by simp; omega), sumN_rev]
  unfold ofK
  by_cases h0 : 0 < K.length
  · have h0' : 0 < K.reverse.length := by simpa using h0
    rw [dif_pos h0, dif_pos h0', hsum]
    by_cases k2 : k = 2
    · rw [if_pos k2, if_pos k2]
    by_cases k1 : k = 1
    · rw [if_neg k2, if_neg k2, if_pos k1, if_pos k1, List.length_reverse]
    rw [if_neg k2, if_neg k2, if_neg k1, if_neg k1, if_neg hk, if_neg hk]
    have hx : K[0] ∈ K := List.getElem_mem h0
    have hy' : K.reverse[0] ∈ K := by simp
    by_cases k4 : k = 4
    · rw [if_pos k4, if_pos k4]
      obtain ⟨a1, a2, a3, a4⟩ := max_is (fun v hv => (hK v hv).1) (hK _ hx).1
      obtain ⟨b1, b2, b3, b4⟩ := max_is (fun v hv => (hKr v hv).1) (hK _ hy').1
      refine vl_eq b4 a4 (Int.le_antisymm ?_ ?_)
      · rcases b1 with e | e
        · rw [e]; exact a3 _ hy'
        · exact a3 _ (by simpa using e)
      · rcases a1 with e | e
        · rw [e]; exact b3 _ (by simp)
        · exact b3 _ (by simpa using e)
    by_cases k5 : k = 5
    · rw [if_neg k4, if_neg k4, if_pos k5, if_pos k5]
      obtain ⟨a1, a2, a3, a4⟩ := min_is (fun v hv => (hK v hv).1) (hK _ hx).1
      obtain ⟨b1, b2, b3, b4⟩ := min_is (fun v hv => (hKr v hv).1) (hK _ hy').1
      refine vl_eq b4 a4 (Int.le_antisymm ?_ ?_)
      · rcases a1 with e | e
        · rw [e]; exact b3 _ (by simp)
        · exact b3 _ (by simpa using e)
      · rcases b1 with e | e
        · rw [e]; exact a3 _ hy'
        · exact a3 _ (by simpa using e)
    rw [if_neg k4, if_neg k4, if_neg k5, if_neg k5]
  · rw [dif_neg h0, dif_neg (by simpa using h0)]
end Go.Proofs.Ytoojjejdbpkbhaa
