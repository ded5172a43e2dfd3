/- Plain laws of many values as one (chapter 6): the greatest and the least, the sum in whatever order. · Points that fill a slot of the next archive, plainly (WhisperRolls). · maps.Clone at the files' map. · Sync. -/
import Derived.Test.YtoncapkmaeghfaaRunFxMul
import Derived.Test.YtoncapkmaeghfaaRunWiLay
import Derived.Test.YtoncapkmaeghfaaRunWiHas
import Derived.Test.YtoncapkmaeghfaaRunWhOff
import Derived.Shelf.SlMaps.Clone
namespace Go.Proofs.Ytoncapkmaeghfaa

theorem max_is {K : List Vl} (hK : ∀ v ∈ K, knB v = true) : ∀ {x : Vl}, knB x = true → (maxV x K = x ∨ maxV x K ∈ K) ∧ x.n ≤ (maxV x K).n ∧ (∀ v ∈ K, v.n ≤ (maxV x K).n) ∧ knB (maxV x K) = true := by
 induction K with
 | nil => intro x hx; exact ⟨.inl rfl, Int.le_refl _, fun v h => (by cases h), hx⟩
 | cons a r ih =>
  intro x hx
  have ha : knB a = true := hK a (by simp)
  have e : maxV x (a :: r) = maxV (bif lessB x a then a else x) r := rfl
  have hl := lessB_kn hx ha
  rw [e, hl]
  by_cases h : x.n < a.n
  ·
   rw [decide_eq_true h, cond_true]
   obtain ⟨h1, h2, h3, h4⟩ := ih (fun v hv => hK v (by simp [hv])) ha
   refine ⟨.inr ?_, by omega, fun v hv => ?_, h4⟩
   ·
    rcases h1 with h1 | h1
    ·
     rw [h1]; simp
    ·
     simp [h1]
   ·
    rcases List.mem_cons.1 hv with rfl | hv
    ·
     exact h2
    ·
     exact h3 v hv
  ·
   rw [decide_eq_false h, cond_false]
   obtain ⟨h1, h2, h3, h4⟩ := ih (fun v hv => hK v (by simp [hv])) hx
   refine ⟨?_, h2, fun v hv => ?_, h4⟩
   ·
    rcases h1 with h1 | h1
    ·
     exact .inl h1
    ·
     exact .inr (by simp [h1])
   ·
    rcases List.mem_cons.1 hv with rfl | hv
    ·
     omega
    ·
     exact h3 v hv
theorem min_is {K : List Vl} (hK : ∀ v ∈ K, knB v = true) : ∀ {x : Vl}, knB x = true → (minV x K = x ∨ minV x K ∈ K) ∧ (minV x K).n ≤ x.n ∧ (∀ v ∈ K, (minV x K).n ≤ v.n) ∧ knB (minV x K) = true := by
 induction K with
 | nil => intro x hx; exact ⟨.inl rfl, Int.le_refl _, fun v h => (by cases h), hx⟩
 | cons a r ih =>
  intro x hx
  have ha : knB a = true := hK a (by simp)
  have e : minV x (a :: r) = minV (bif lessB a x then a else x) r := rfl
  have hl := lessB_kn ha hx
  rw [e, hl]
  by_cases h : a.n < x.n
  ·
   rw [decide_eq_true h, cond_true]
   obtain ⟨h1, h2, h3, h4⟩ := ih (fun v hv => hK v (by simp [hv])) ha
   refine ⟨.inr ?_, by omega, fun v hv => ?_, h4⟩
   ·
    rcases h1 with h1 | h1
    ·
     rw [h1]; simp
    ·
     simp [h1]
   ·
    rcases List.mem_cons.1 hv with rfl | hv
    ·
     exact h2
    ·
     exact h3 v hv
  ·
   rw [decide_eq_false h, cond_false]
   obtain ⟨h1, h2, h3, h4⟩ := ih (fun v hv => hK v (by simp [hv])) hx
   refine ⟨?_, h2, fun v hv => ?_, h4⟩
   ·
    rcases h1 with h1 | h1
    ·
     exact .inl h1
    ·
     exact .inr (by simp [h1])
   ·
    rcases List.mem_cons.1 hv with rfl | hv
    ·
     omega
    ·
     exact h3 v hv
theorem vl_eq {a b : Vl} (ha : knB a = true) (hb : knB b = true) (h : a.n = b.n) : a = b := by
 obtain ⟨o, n⟩ := a; obtain ⟨o', n'⟩ := b
 have h1 := knB_ok ha; have h2 := knB_ok hb
 simp only at h h1 h2; subst h h1 h2; rfl

/-- the sum of the numbers. -/
def sumN (l : List Vl) : Int := l.foldl (fun s v => s + v.n) 0
theorem sumN_from (l : List Vl) : ∀ s : Int, l.foldl (fun s v => s + v.n) s = s + sumN l := by
 unfold sumN
 induction l with
 | nil => intro s; simp
 | cons a r ih => intro s; simp only [List.foldl_cons]; rw [ih (s + a.n), ih (0 + a.n)]; omega
theorem sumN_cons (a : Vl) (r : List Vl) : sumN (a :: r) = a.n + sumN r := by
 have := sumN_from r (0 + a.n); simp only [sumN, List.foldl_cons] at this ⊢; rw [this]; omega
theorem sumN_app (l m : List Vl) : sumN (l ++ m) = sumN l + sumN m := by
 induction l with
 | nil => simp [sumN]
 | cons a r ih => rw [List.cons_append, sumN_cons, sumN_cons, ih]; omega
theorem sumN_rev (l : List Vl) : sumN l.reverse = sumN l := by
 induction l with
 | nil => rfl
 | cons a r ih => rw [List.reverse_cons, sumN_app, ih, sumN_cons, sumN_cons]; simp [sumN]; omega

/-- values of which no sum on the way is too much are added as numbers. -/
theorem add_from {K : List Vl} : ∀ {n : Nat} {s : Int}, (∀ v ∈ K, knB v = true ∧ -1125899906842624 ≤ v.n ∧ v.n ≤ 1125899906842624) → n + K.length ≤ 200 → -(n * 1125899906842624 : Int) ≤ s → s ≤ n * 1125899906842624 →
  K.foldl sumV ⟨true, s⟩ = ⟨true, s + sumN K⟩ := by
 induction K with
 | nil => intro n s _ _ _ _; simp [sumN]
 | cons a r ih =>
  intro n s hK hn h1 h2
  obtain ⟨ha, h3, h4⟩ := hK a (by simp)
  simp only [List.length_cons] at hn
  have hs : knB ⟨true, s⟩ = true := by rw [knB_iff]; refine ⟨rfl, ?_, ?_⟩ <;> simp only <;> omega
  have e : sumV ⟨true, s⟩ a = ⟨true, s + a.n⟩ := by
   unfold sumV; rw [hs, ha]
   simp only [Bool.and_self, cond_true]
   exact ofV_in (by omega) (by omega)
  rw [List.foldl_cons, e, ih (n := n + 1) (fun v hv => hK v (by simp [hv])) (by omega) (by omega) (by omega), sumN_cons]
  congr 1; omega
theorem add_small {K : List Vl} (hK : ∀ v ∈ K, knB v = true ∧ -1125899906842624 ≤ v.n ∧ v.n ≤ 1125899906842624) (hl : K.length ≤ 200) : addV K = ⟨true, sumN K⟩ := by
 unfold addV
 rw [ofV_in (by omega) (by omega), add_from (n := 0) hK (by omega) (by omega) (by omega)]
 congr 1; omega

theorem kn_rev (l : List Vl) : kn l.reverse = (kn l).reverse := by unfold kn; exact List.filter_reverse ..

/-- in whatever order: the sum, the mean, the greatest, the least. -/
theorem agg_rev (k : Int) (l : List Vl) (hk : k ≠ 3) (hl : l.length ≤ 200) (h : ∀ v ∈ l, -1125899906842624 ≤ v.n ∧ v.n ≤ 1125899906842624) : aggV k l.reverse = aggV k l := by
 unfold aggV
 rw [kn_rev]
 have hkl := kn_len l
 have hK : ∀ v ∈ kn l, knB v = true ∧ -1125899906842624 ≤ v.n ∧ v.n ≤ 1125899906842624 := by
  intro v hv
  have := List.mem_filter.1 hv
  exact ⟨this.2, h v this.1⟩
 generalize kn l = K at *
 have hKr : ∀ v ∈ K.reverse, knB v = true ∧ -1125899906842624 ≤ v.n ∧ v.n ≤ 1125899906842624 := fun v hv => hK v (by simpa using hv)
 have hsum : addV K.reverse = addV K := by
  rw [add_small hK (by omega), add_small hKr (by simp; omega), sumN_rev]
 unfold ofK
 by_cases h0 : 0 < K.length
 ·
  have h0' : 0 < K.reverse.length := by simpa using h0
  rw [dif_pos h0, dif_pos h0', hsum]
  by_cases k2 : k = 2
  ·
   rw [if_pos k2, if_pos k2]
  by_cases k1 : k = 1
  ·
   rw [if_neg k2, if_neg k2, if_pos k1, if_pos k1, List.length_reverse]
  rw [if_neg k2, if_neg k2, if_neg k1, if_neg k1, if_neg hk, if_neg hk]
  have hx : K[0] ∈ K := List.getElem_mem h0
  have hy' : K.reverse[0] ∈ K := by simp
  by_cases k4 : k = 4
  ·
   rw [if_pos k4, if_pos k4]
   obtain ⟨a1, a2, a3, a4⟩ := max_is (fun v hv => (hK v hv).1) (hK _ hx).1
   obtain ⟨b1, b2, b3, b4⟩ := max_is (fun v hv => (hKr v hv).1) (hK _ hy').1
   refine vl_eq b4 a4 (Int.le_antisymm ?_ ?_)
   ·
    rcases b1 with e | e
    ·
     rw [e]; exact a3 _ hy'
    ·
     exact a3 _ (by simpa using e)
   ·
    rcases a1 with e | e
    ·
     rw [e]; exact b3 _ (by simp)
    ·
     exact b3 _ (by simpa using e)
  by_cases k5 : k = 5
  ·
   rw [if_neg k4, if_neg k4, if_pos k5, if_pos k5]
   obtain ⟨a1, a2, a3, a4⟩ := min_is (fun v hv => (hK v hv).1) (hK _ hx).1
   obtain ⟨b1, b2, b3, b4⟩ := min_is (fun v hv => (hKr v hv).1) (hK _ hy').1
   refine vl_eq b4 a4 (Int.le_antisymm ?_ ?_)
   ·
    rcases a1 with e | e
    ·
     rw [e]; exact b3 _ (by simp)
    ·
     exact b3 _ (by simpa using e)
   ·
    rcases b1 with e | e
    ·
     rw [e]; exact a3 _ hy'
    ·
     exact a3 _ (by simpa using e)
  rw [if_neg k4, if_neg k4, if_neg k5, if_neg k5]
 ·
  rw [dif_neg h0, dif_neg (by simpa using h0)]
end Go.Proofs.Ytoncapkmaeghfaa
namespace Go.Proofs.Ytoncapkmaeghfaa
set_option linter.unusedVariables false
set_option linter.unusedSimpArgs false
open Go.RowKit

def Bnd (ns : List Int) : Prop := ∀ n ∈ ns, -1099511627776 ≤ n ∧ n ≤ 1099511627776
def kV (ns : List Int) : List Vl := ns.map fun n => ⟨true, n⟩
def smI (ns : List Int) : Int := ns.foldl (fun s n => s + n) 0
theorem kV_len (ns : List Int) : (kV ns).length = ns.length := by simp [kV]
theorem kV_kn {ns : List Int} (h : Bnd ns) : ∀ v ∈ kV ns, knB v = true ∧ -1099511627776 ≤ v.n ∧ v.n ≤ 1099511627776 := by
 intro v hv
 simp only [kV, List.mem_map] at hv
 obtain ⟨n, hn, rfl⟩ := hv
 have := h n hn
 refine ⟨?_, this⟩
 rw [knB_iff]
 exact ⟨rfl, by simp only; omega, by simp only; omega⟩
theorem sum_kV (ns : List Int) : sumN (kV ns) = smI ns := by unfold sumN smI kV; rw [List.foldl_map]
theorem max_kV : ∀ (ns : List Int) (x : Int), Bnd (x :: ns) → maxV ⟨true, x⟩ (kV ns) = ⟨true, ns.foldl max x⟩
 | [], _, _ => rfl
 | n :: r, x, h => by
  have hx := h x (List.mem_cons_self ..)
  have hn := h n (List.mem_cons_of_mem _ (List.mem_cons_self ..))
  have hr : ∀ z ∈ r, -1099511627776 ≤ z ∧ z ≤ 1099511627776 := fun z hz => h z (List.mem_cons_of_mem _ (List.mem_cons_of_mem _ hz))
  have k1 : knB ⟨true, x⟩ = true := by rw [knB_iff]; exact ⟨rfl, by simp only; omega, by simp only; omega⟩
  have k2 : knB ⟨true, n⟩ = true := by rw [knB_iff]; exact ⟨rfl, by simp only; omega, by simp only; omega⟩
  show maxV (bif lessB ⟨true, x⟩ ⟨true, n⟩ then ⟨true, n⟩ else ⟨true, x⟩) (kV r) = ⟨true, r.foldl max (max x n)⟩
  rw [lessB_kn k1 k2]
  by_cases hlt : x < n
  ·
   rw [decide_eq_true (show (⟨true, x⟩ : Vl).n < (⟨true, n⟩ : Vl).n from hlt), cond_true, max_kV r n (fun z hz => by rcases List.mem_cons.1 hz with e | e; exact e ▸ hn; exact hr z e), show max x n = n by omega]
  ·
   rw [decide_eq_false (show ¬ (⟨true, x⟩ : Vl).n < (⟨true, n⟩ : Vl).n from hlt), cond_false, max_kV r x (fun z hz => by rcases List.mem_cons.1 hz with e | e; exact e ▸ hx; exact hr z e), show max x n = x by omega]
theorem min_kV : ∀ (ns : List Int) (x : Int), Bnd (x :: ns) → minV ⟨true, x⟩ (kV ns) = ⟨true, ns.foldl min x⟩
 | [], _, _ => rfl
 | n :: r, x, h => by
  have hx := h x (List.mem_cons_self ..)
  have hn := h n (List.mem_cons_of_mem _ (List.mem_cons_self ..))
  have hr : ∀ z ∈ r, -1099511627776 ≤ z ∧ z ≤ 1099511627776 := fun z hz => h z (List.mem_cons_of_mem _ (List.mem_cons_of_mem _ hz))
  have k1 : knB ⟨true, x⟩ = true := by rw [knB_iff]; exact ⟨rfl, by simp only; omega, by simp only; omega⟩
  have k2 : knB ⟨true, n⟩ = true := by rw [knB_iff]; exact ⟨rfl, by simp only; omega, by simp only; omega⟩
  show minV (bif lessB ⟨true, n⟩ ⟨true, x⟩ then ⟨true, n⟩ else ⟨true, x⟩) (kV r) = ⟨true, r.foldl min (min x n)⟩
  rw [lessB_kn k2 k1]
  by_cases hlt : n < x
  ·
   rw [decide_eq_true (show (⟨true, n⟩ : Vl).n < (⟨true, x⟩ : Vl).n from hlt), cond_true, min_kV r n (fun z hz => by rcases List.mem_cons.1 hz with e | e; exact e ▸ hn; exact hr z e), show min x n = n by omega]
  ·
   rw [decide_eq_false (show ¬ (⟨true, n⟩ : Vl).n < (⟨true, x⟩ : Vl).n from hlt), cond_false, min_kV r x (fun z hz => by rcases List.mem_cons.1 hz with e | e; exact e ▸ hx; exact hr z e), show min x n = x by omega]
theorem fold_bnd (f : Int → Int → Int) (hf : ∀ a b, f a b = a ∨ f a b = b) : ∀ (ns : List Int) (x : Int), Bnd (x :: ns) → -1099511627776 ≤ ns.foldl f x ∧ ns.foldl f x ≤ 1099511627776
 | [], x, h => h x (List.mem_cons_self ..)
 | n :: r, x, h => by
  rw [List.foldl_cons]
  refine fold_bnd f hf r (f x n) (fun z hz => ?_)
  rcases List.mem_cons.1 hz with e | e
  ·
   rw [e]
   rcases hf x n with e | e
   ·
    rw [e]; exact h x (List.mem_cons_self ..)
   ·
    rw [e]; exact h n (List.mem_cons_of_mem _ (List.mem_cons_self ..))
  ·
   exact h z (List.mem_cons_of_mem _ (List.mem_cons_of_mem _ e))
theorem smI_from (ns : List Int) : ∀ s, ns.foldl (fun s n => s + n) s = s + smI ns := by
 unfold smI
 induction ns with
 | nil => intro s; simp
 | cons a r ih => intro s; simp only [List.foldl_cons]; rw [ih (s + a), ih (0 + a)]; omega
theorem smI_bnd : ∀ (ns : List Int), Bnd ns → -(ns.length * 1099511627776 : Int) ≤ smI ns ∧ smI ns ≤ ns.length * 1099511627776
 | [], _ => by simp [smI]
 | n :: r, h => by
  have h1 := h n (List.mem_cons_self ..)
  have h2 := smI_bnd r (fun z hz => h z (List.mem_cons_of_mem _ hz))
  have e : smI (n :: r) = n + smI r := by
   show (n :: r).foldl (fun s n => s + n) 0 = _
   rw [List.foldl_cons, smI_from]; omega
  rw [e, List.length_cons]
  omega
theorem rq_near {P d : Nat} (hd : 0 < d) : 2 * (rq P d * d) ≤ 2 * P + d ∧ 2 * P ≤ 2 * (rq P d * d) + d := by
 have h1 := Nat.div_add_mod P d
 have h2 := Nat.mod_lt P hd
 rw [Nat.mul_comm] at h1
 by_cases h : d - P % d ≤ P % d
 ·
  rw [rq_up h, Nat.add_mul, Nat.one_mul]
  omega
 ·
  rw [rq_dn h]
  omega
theorem mean_near {S : Int} {n : Nat} (hn : 0 < n) (hn2 : n ≤ 10) (h1 : -(n * 1099511627776 : Int) ≤ S) (h2 : S ≤ n * 1099511627776) : ∃ q, mdV S 1000000 ((n : Int) * 1000000) = ⟨true, q⟩ ∧ -1099511627777 ≤ q ∧ q ≤ 1099511627777 ∧ 2 * (q * n - S) ≤ n ∧ -(2 * (q * n - S)) ≤ n := by
 obtain ⟨d, hd⟩ : ∃ d : Nat, d = ((n : Int) * 1000000).natAbs := ⟨_, rfl⟩
 have hdn : d = n * 1000000 := by omega
 obtain ⟨r, hr⟩ : ∃ r, r = rq (S.natAbs * 1000000) d := ⟨_, rfl⟩
 have hnear := rq_near (P := S.natAbs * 1000000) (d := d) (by omega)
 rw [← hr] at hnear
 have e1 : r * d = r * n * 1000000 := by rw [hdn, Nat.mul_assoc]
 rw [e1] at hnear
 have hA : 2 * (r * n) ≤ 2 * S.natAbs + n := by omega
 have hB : 2 * S.natAbs ≤ 2 * (r * n) + n := by omega
 have hr2 : r * n ≤ 10995116277761 * n := by
  have : S.natAbs ≤ n * 1099511627776 := by omega
  omega
 have hrr : r ≤ 1099511627777 := by
  rcases Nat.lt_or_ge 1099511627777 r with h | h
  ·
   have h3 : 1099511627778 * n ≤ r * n := Nat.mul_le_mul_right n h
   have : S.natAbs ≤ n * 1099511627776 := by omega
   omega
  ·
   exact h
 have hok : mdOk S 1000000 ((n : Int) * 1000000) = true := mdOk_yes (by omega) (by rw [← hd, show (1000000 : Int).natAbs = 1000000 from rfl, ← hr]; omega)
 have c1 : decide ((1000000 : Int) < 0) = false := rfl
 have c2 : decide ((n : Int) * 1000000 < 0) = false := decide_eq_false (by omega)
 have hrn : ((r * n : Nat) : Int) = (r : Int) * n := by simp
 by_cases hs : S < 0
 ·
  have hneg : mdNeg S 1000000 ((n : Int) * 1000000) = true := by unfold mdNeg; rw [c1, c2, decide_eq_true hs]; rfl
  have hq : mdN S 1000000 ((n : Int) * 1000000) = -(r : Int) := by unfold mdN; rw [hok, cond_true, hneg, cond_true, ← hd, show (1000000 : Int).natAbs = 1000000 from rfl, ← hr]
  refine ⟨-(r : Int), ?_, by omega, by omega, ?_, ?_⟩
  ·
   unfold mdV; rw [hok, cond_true, hq]; exact ofV_in (by omega) (by omega)
  ·
   rw [Int.neg_mul, ← hrn]; omega
  ·
   rw [Int.neg_mul, ← hrn]; omega
 ·
  have hneg : mdNeg S 1000000 ((n : Int) * 1000000) = false := by unfold mdNeg; rw [c1, c2, decide_eq_false hs]; rfl
  have hq : mdN S 1000000 ((n : Int) * 1000000) = (r : Int) := by unfold mdN; rw [hok, cond_true, hneg, cond_false, ← hd, show (1000000 : Int).natAbs = 1000000 from rfl, ← hr]
  refine ⟨(r : Int), ?_, by omega, by omega, ?_, ?_⟩
  ·
   unfold mdV; rw [hok, cond_true, hq]; exact ofV_in (by omega) (by omega)
  ·
   rw [← hrn]; omega
  ·
   rw [← hrn]; omega
/-- what is put together, in each of the five ways. -/
theorem roll_of {ns : List Int} (h0 : 0 < ns.length) (h10 : ns.length ≤ 10) (hb : Bnd ns) :
  ofK 2 (kV ns) = ⟨true, smI ns⟩ ∧ ofK 3 (kV ns) = ⟨true, ns[ns.length - 1]⟩ ∧ ofK 4 (kV ns) = ⟨true, ns.foldl max ns[0]⟩ ∧ ofK 5 (kV ns) = ⟨true, ns.foldl min ns[0]⟩ ∧
  ∃ q, ofK 1 (kV ns) = ⟨true, q⟩ ∧ -1099511627777 ≤ q ∧ q ≤ 1099511627777 ∧ 2 * (q * ns.length - smI ns) ≤ ns.length ∧ -(2 * (q * ns.length - smI ns)) ≤ ns.length := by
 have hl : 0 < (kV ns).length := by rw [kV_len]; exact h0
 have hadd : addV (kV ns) = ⟨true, smI ns⟩ := by
  rw [add_small (fun v hv => by have := kV_kn hb v hv; exact ⟨this.1, by omega, by omega⟩) (by rw [kV_len]; omega), sum_kV]
 have hx : (kV ns)[0] = ⟨true, ns[0]⟩ := by simp [kV]
 have hb0 : Bnd (ns[0] :: ns) := fun z hz => by
  rcases List.mem_cons.1 hz with e | e
  ·
   exact e ▸ hb _ (List.getElem_mem h0)
  ·
   exact hb z e
 refine ⟨?_, ?_, ?_, ?_, ?_⟩
 ·
  unfold ofK; rw [dif_pos hl, if_pos rfl, hadd]
 ·
  unfold ofK; rw [dif_pos hl, if_neg (by decide), if_neg (by decide), if_pos rfl]; simp [kV]
 ·
  unfold ofK; rw [dif_pos hl, if_neg (by decide), if_neg (by decide), if_neg (by decide), if_pos rfl, hx, max_kV ns _ hb0]
 ·
  unfold ofK; rw [dif_pos hl, if_neg (by decide), if_neg (by decide), if_neg (by decide), if_neg (by decide), if_pos rfl, hx, min_kV ns _ hb0]
 ·
  have hs := smI_bnd ns hb
  obtain ⟨q, hq, h1, h2, h3, h4⟩ := mean_near (S := smI ns) h0 h10 hs.1 hs.2
  refine ⟨q, ?_, h1, h2, h3, h4⟩
  unfold ofK
  rw [dif_pos hl, if_neg (by decide), if_pos rfl, hadd, kV_len]
  have hi' : intV (ns.length : Nat) = ⟨true, (ns.length : Int) * 1000000⟩ := by
   unfold intV
   rw [decide_eq_true (by omega), decide_eq_true (by omega), Bool.and_self, cond_true]
   exact ofV_in (by omega) (by omega)
  have k1 : knB ⟨true, smI ns⟩ = true := by rw [knB_iff]; exact ⟨rfl, by simp only; omega, by simp only; omega⟩
  have k2 : knB ⟨true, (ns.length : Int) * 1000000⟩ = true := by rw [knB_iff]; exact ⟨rfl, by simp only; omega, by simp only; omega⟩
  rw [hi']
  unfold divV
  rw [k1, k2, Bool.and_self, cond_true]
  exact hq
theorem roll_ok {ns : List Int} (h0 : 0 < ns.length) (h10 : ns.length ≤ 10) (hb : Bnd ns) {kd : Int} (h1 : 1 ≤ kd) (h5 : kd ≤ 5) : ∃ n, ofK kd (kV ns) = ⟨true, n⟩ ∧ -4611686018427387904 ≤ n ∧ n ≤ 4611686018427387904 := by
 obtain ⟨r2, r3, r4, r5, q, r1, q1, q2, -⟩ := roll_of h0 h10 hb
 have hs := smI_bnd ns hb
 have hb0 : Bnd (ns[0] :: ns) := fun z hz => by
  rcases List.mem_cons.1 hz with e | e
  ·
   exact e ▸ hb _ (List.getElem_mem h0)
  ·
   exact hb z e
 rcases (show kd = 1 ∨ kd = 2 ∨ kd = 3 ∨ kd = 4 ∨ kd = 5 by omega) with e | e | e | e | e
 ·
  subst e; exact ⟨q, r1, by omega, by omega⟩
 ·
  subst e; exact ⟨_, r2, by omega, by omega⟩
 ·
  subst e; have := hb _ (List.getElem_mem (show ns.length - 1 < ns.length by omega)); exact ⟨_, r3, by omega, by omega⟩
 ·
  subst e; have := fold_bnd max (fun a b => by omega) ns _ hb0; exact ⟨_, r4, by omega, by omega⟩
 ·
  subst e; have := fold_bnd min (fun a b => by omega) ns _ hb0; exact ⟨_, r5, by omega, by omega⟩
/-- what the slots of the finest archive have behind so many points. -/
def LL (ns : List Int) (j : Nat) : List Vl := (List.range 10).map fun (k : Nat) => if k < j then ofV (ns.getD k 0) else ⟨false, 0⟩
theorem kn_LL {ns : List Int} {j : Nat} (hj : j ≤ ns.length) (h10 : j ≤ 10) (hb : Bnd ns) : kn (LL ns j) = kV (ns.take j) := by
 unfold LL kn
 have e : List.range 10 = List.range j ++ (List.range (10 - j)).map (fun k => j + k) := by
  rw [← List.range_add]; congr 1; omega
 rw [e, List.map_append, List.filter_append]
 have e1 : (List.map (fun (k : Nat) => if k < j then ofV (ns.getD k 0) else ⟨false, 0⟩) (List.range j)) = kV (ns.take j) := by
  apply List.ext_getElem
  ·
   rw [List.length_map, List.length_range, kV_len, List.length_take]; omega
  ·
   intro k h1 h2
   have hk : k < j := by rw [List.length_map, List.length_range] at h1; exact h1
   have hkn : k < ns.length := by omega
   have := hb _ (List.getElem_mem hkn)
   simp only [List.getElem_map, List.getElem_range, kV, List.getElem_take]
   rw [if_pos hk, List.getD_eq_getElem?_getD, List.getElem?_eq_getElem hkn, Option.getD_some, ofV_in (by omega) (by omega)]
 have e2 : (List.map (fun (k : Nat) => if k < j then ofV (ns.getD k 0) else (⟨false, 0⟩ : Vl)) ((List.range (10 - j)).map (fun k => j + k))).filter knB = [] := by
  rw [List.filter_eq_nil_iff]
  intro v hv
  simp only [List.mem_map] at hv
  obtain ⟨k, ⟨i, -, rfl⟩, rfl⟩ := hv
  rw [if_neg (by omega)]
  decide
 rw [e1, e2, List.append_nil, List.filter_eq_self]
 exact fun v hv => (kV_kn (fun z hz => hb z (List.mem_of_mem_take hz)) v hv).1
theorem LL_len (ns : List Int) (j : Nat) : (LL ns j).length = 10 := by simp [LL]
theorem put_LL {ns : List Int} {j : Nat} (h1 : 1 ≤ j) (hj : j ≤ ns.length) (h10 : j ≤ 10) (hb : Bnd ns) (kd : Int) : putV kd 0 (LL ns j) = ofK kd (kV (ns.take j)) := by
 unfold putV aggV
 rw [kn_LL hj h10 hb, LL_len, kV_len, List.length_take, Nat.min_eq_left hj]
 have : enB 0 (j : Nat) (10 : Nat) = true := by
  unfold enB
  rw [show heldI 0 = 0 from rfl]
  unfold enX
  rw [Int.zero_mul]
  unfold heldI
  rw [decide_eq_true (by omega), decide_eq_true (by omega), decide_eq_true (by omega)]
  rfl
 rw [this, cond_true]
def rM : Arcs := [(1, 20), (10, 6)]
theorem rM_may {kd : Nat} (h1 : 1 ≤ kd) (h5 : kd ≤ 5) : mayH kd 0 (ints rM) = true := by
 unfold mayH
 rw [decide_eq_true (by omega), show mayS (nats (ints rM)) = true from by kernel_rfl]
 rfl
theorem rM_size : sizeS rM = 352 := by kernel_rfl
/-- the file behind so many points. -/
structure RoI (kd : Nat) (ns : List Int) (j : Nat) (D : List UInt8) : Prop where
 ok : HdOk kd 0 rM D
 s0 : ∀ k : Nat, k < 10 → seenS rM D 0 (1000 + (k : Int)) = if k < j then ofV (ns.getD k 0) else ⟨false, 0⟩
 s1 : 0 < j → seenS rM D 1 1000 = ofK kd (kV (ns.take j))
theorem RoI.start {kd : Nat} (h1 : 1 ≤ kd) (h5 : kd ≤ 5) (ns : List Int) : RoI kd ns 0 (newS kd 0 rM) :=
 ⟨newS_ok kd 0 rM, fun k _ => by rw [if_neg (Nat.not_lt_zero _)]; exact seen_new (MayF.ofH (rM_may h1 h5)) (by decide) (by omega), fun h => absurd h (Nat.lt_irrefl _)⟩
theorem rplace (k : Nat) (h : k < 10) : pS rM 0 (1000 + (k : Int)) = k := by
 unfold pS
 rw [show ((stpS rM 0 : Nat) : Int) = 1 from rfl, show ((cntS rM 0 : Nat) : Int) = 20 from rfl, placeS_of (by omega) (by omega) (by omega), Int.ediv_one]
 omega
theorem RoI.step {kd : Nat} (h1 : 1 ≤ kd) (h5 : kd ≤ 5) {ns : List Int} {j : Nat} {D : List UInt8} (h : RoI kd ns j D) (hj : j < ns.length) (h10 : ns.length ≤ 10) (hb : Bnd ns) :
  ∃ D', laysS kd 0 rM D (1000 + (j : Int)) (ns.getD j 0) (1000 + (j : Int)) = some D' ∧ RoI kd ns (j + 1) D' := by
 have hF := MayF.ofH (rM_may h1 h5)
 obtain ⟨n, hn⟩ : ∃ n, n = ns.getD j 0 := ⟨_, rfl⟩
 have hnb : -1099511627776 ≤ n ∧ n ≤ 1099511627776 := by
  rw [hn, List.getD_eq_getElem?_getD, List.getElem?_eq_getElem hj, Option.getD_some]
  exact hb _ (List.getElem_mem hj)
 rw [← hn]
 have hov : ofV n = ⟨true, n⟩ := ofV_in (by omega) (by omega)
 obtain ⟨t, ht⟩ : ∃ t : Int, t = 1000 + (j : Int) := ⟨_, rfl⟩
 rw [← ht]
 have hfi : firstS rM t t = 0 := first_at (m := rM) (by decide) (by show reachB (1, 20) t t = true; unfold reachB; rw [decide_eq_true (by omega), decide_eq_true (by simp)]; rfl) (fun i _ hi => absurd hi (Nat.not_lt_zero _))
 have ha0 : ∀ x : Int, 0 ≤ x → alignS x (stpS rM 0) = x := fun x hx => by
  rw [show ((stpS rM 0 : Nat) : Int) = 1 from rfl, alignS_of (by omega) hx, Int.emod_one]; omega
 have ha1 : alignS t (stpS rM 1) = 1000 := by
  rw [show ((stpS rM 1 : Nat) : Int) = 10 from rfl, alignS_of (by omega) (by omega)]; omega
 obtain ⟨D1, hD1⟩ : ∃ D1, D1 = layS rM D 0 t n := ⟨_, rfl⟩
 have hok1 : HdOk kd 0 rM D1 := by rw [hD1]; exact h.ok.lay hF (by decide) t n
 have hs0 : ∀ k : Nat, k < 10 → seenS rM D1 0 (1000 + (k : Int)) = if k < j + 1 then ofV (ns.getD k 0) else ⟨false, 0⟩ := fun k hk => by
  rw [hD1]
  by_cases hkj : k = j
  ·
   subst hkj
   rw [if_pos (Nat.lt_succ_self _), ← hn, ← ht]
   exact seen_same hF h.ok.1 (by decide) (by omega) (by omega) (by omega) (by omega)
  ·
   rw [seen_other hF h.ok.1 (i := 0) (i' := 0) (by decide) (by decide) (.inr (by rw [ht, rplace j (by omega), rplace k hk]; exact fun e => hkj e.symm)), h.s0 k hk]
   by_cases hlt : k < j
   ·
    rw [if_pos hlt, if_pos (by omega)]
   ·
    rw [if_neg hlt, if_neg (by omega)]
 have hgl : gathL rM D1 1 1000 = LL ns (j + 1) := by
  unfold gathL LL
  rw [show stpS rM 1 / stpS rM (1 - 1) = 10 from rfl]
  apply List.map_congr_left
  intro k hk
  have hk10 : k < 10 := List.mem_range.1 hk
  rw [← hs0 k hk10]
  unfold hasV
  rw [show (1 - 1 : Nat) = 0 from rfl, show (1000 : Int) + (k : Int) * (stpS rM 0 : Nat) = 1000 + (k : Int) by rw [show ((stpS rM 0 : Nat) : Int) = 1 from rfl]; omega, ha0 _ (by omega), if_neg (by omega)]
 have hpv : gathV kd 0 rM D1 1 t = ofK kd (kV (ns.take (j + 1))) := by
  unfold gathV
  rw [ha1, hgl, put_LL (by omega) (by omega) (by omega) hb]
 have hb1 : Bnd (ns.take (j + 1)) := fun z hz => hb z (List.mem_of_mem_take hz)
 have hl1 : (ns.take (j + 1)).length = j + 1 := by rw [List.length_take]; omega
 obtain ⟨v, hv, hv1, hv2⟩ := roll_ok (ns := ns.take (j + 1)) (by omega) (by omega) hb1 (kd := kd) (by omega) (by omega)
 have hgs : gathS kd 0 rM D1 1 t = some (layS rM D1 1 1000 v) := by
  unfold gathS
  rw [hpv, hv, ha1, if_pos ⟨rfl, by omega⟩]
 refine ⟨layS rM D1 1 1000 v, ?_, ?_⟩
 ·
  unfold laysS
  rw [hov, hfi, if_neg (by simp; omega), if_neg (by decide), ha0 t (by omega), if_neg (by omega), ← hD1]
  show some (upS kd 0 rM t 1 (0 + 1) D1) = _
  rw [upS, hgs]
  rfl
 ·
  refine ⟨hok1.lay hF (by decide) _ _, fun k hk => ?_, fun _ => ?_⟩
  ·
   rw [seen_other hF hok1.1 (i := 1) (i' := 0) (by decide) (by decide) (.inl (by decide)), hs0 k hk]
  ·
   rw [seen_same hF hok1.1 (by decide) (by omega) (by omega) (by omega) (by omega), hv]
   exact ofV_in (by omega) (by omega)
end Go.Proofs.Ytoncapkmaeghfaa
namespace Go.Proofs.Ytoncapkmaeghfaa
set_option linter.unusedVariables false
set_option linter.unusedSimpArgs false
open Go.RowKit Go.ChangeMaps Go.Maps

set_option maxRecDepth 100000 in
set_option maxHeartbeats 3200000 in
theorem mapclone_any (b : Nat) (es : Array MapEntry) (clock : Nat) (w : World) (hb : w.heap[b]? = some (.map es clock)) :
  Calls Try.prog 41 #[.map (some b)] w fun e w' => e = .returned (.map (some w.heap.size)) ∧ w' = w.alloc (.map es clock) := by
 have hq := fun w => run_eql_map_nil_sl (P := Try.prog) w 60 _ _ (some b) Try.underlying60
 go_enter Try.func41, Try.ntmps41
 go_wp2
 rw [run_callFunc_extern Try.func53 (by kernel_rfl) (by kernel_rfl) (by kernel_rfl) (e := Extern.MapsClone.clone) (by kernel_rfl), run_maps_clone_sl w 60 hb]
 simp only [Result.andThen]
 rw [Oper.upon_value]
 go_wp2
 rw [run_typeAssert_map_sl _ 60 _ _ _ _ Try.underlying60]
 simp only [Result.andThen]
 rw [Oper.upon_value]
 go_wp2
 go_ret
 exact ⟨rfl, rfl⟩
end Go.Proofs.Ytoncapkmaeghfaa
namespace Go.Proofs.Ytoncapkmaeghfaa
set_option linter.unusedVariables false
set_option linter.unusedSimpArgs false
open Go.RowKit Go.ChangeMaps Go.Maps

theorem FsM.synced {w : World} {Y : Nat → Prop} {F P M : Nat} {R : Option Nat} {room : Int} {n : Nat} {D : Option (List UInt8)} (h : FsM Y w F P M R room n D) (y : Value) : FsM Y ((w.setCell ⟨P, 1, none⟩ y).setCell ⟨P, 0, none⟩ (.slice none 0 0)) F P M none room 0 D ∧ Kp (fun k => k = P) w ((w.setCell ⟨P, 1, none⟩ y).setCell ⟨P, 0, none⟩ (.slice none 0 0)) := by
 have k : Kp (fun k => k = P) w ((w.setCell ⟨P, 1, none⟩ y).setCell ⟨P, 0, none⟩ (.slice none 0 0)) := ((Kp.refl (fun k => k = P) _).set (p := ⟨P, 1, none⟩) (.inl (show P = P from rfl)) _).set (p := ⟨P, 0, none⟩) (.inl (show P = P from rfl)) _
 obtain ⟨v, xs, v1, v2, v3⟩ := h.p0
 obtain ⟨y0, hy⟩ := h.p1
 have q0 : ((w.setCell ⟨P, 1, none⟩ y).setCell ⟨P, 0, none⟩ (.slice none 0 0)).cell? ⟨P, 0, none⟩ = some (.slice none 0 0) := World.cell?_setCell_same' _ _ _ (by rw [World.cell?_setCell_other w ⟨P, 1, none⟩ ⟨P, 0, none⟩ _ (by first | (simp; done) | (simp; omega)), v1]; rfl)
 have q1 : ((w.setCell ⟨P, 1, none⟩ y).setCell ⟨P, 0, none⟩ (.slice none 0 0)).cell? ⟨P, 1, none⟩ = some y := (World.cell?_setCell_other _ ⟨P, 0, none⟩ ⟨P, 1, none⟩ _ (by first | (simp; done) | (simp; omega))).trans (World.cell?_setCell_same' _ _ _ (by rw [hy]; rfl))
 refine ⟨⟨Nat.lt_of_lt_of_le h.lf k.size, Nat.lt_of_lt_of_le h.lp k.size, Nat.lt_of_lt_of_le h.lm k.size, h.nfp, h.nfm, h.npm, (k.cell (a := ⟨F, 0, none⟩) h.lf h.nfp).trans h.f0, (k.cell (a := ⟨F, 1, none⟩) h.lf h.nfp).trans h.f1, (k.cell (a := ⟨F, 2, none⟩) h.lf h.nfp).trans h.f2,
  ⟨.slice none 0 0, [], q0, rfl, World.ownsRow_nil _ _ _ _⟩, ⟨y, q1⟩, by rw [World.frozen?_setCell, World.frozen?_setCell]; exact h.z0, by rw [World.frozen?_setCell, World.frozen?_setCell]; exact h.z1, (fun _ e => by cases e), fun i hi => Nat.lt_of_lt_of_le (h.yl i hi) k.size, ?_⟩, k⟩
 have hM : ¬ M = P := fun e => h.npm e.symm
 cases D with
 | none =>
  obtain ⟨clk, hb⟩ := h.mp
  exact ⟨clk, (k.block M h.lm hM).trans hb⟩
 | some l =>
  obtain ⟨clk, born, g, c, hb, hc, hr, hg, hq⟩ := h.mp
  exact ⟨clk, born, g, c, (k.block M h.lm hM).trans hb, hc, k.rd hr (fun _ ad e => by injection e with e; rw [← e]; exact hq.1), Nat.lt_of_lt_of_le hg k.size, hq.1, hq.2.1, (fun e => by cases e), hq.2.2.2⟩
theorem FsM.map {w : World} {Y : Nat → Prop} {F P M : Nat} {R : Option Nat} {room : Int} {n : Nat} {D : Option (List UInt8)} (h : FsM Y w F P M R room n D) : ∃ es clk, w.heap[M]? = some (.map es clk) := by
 cases D with
 | none => obtain ⟨clk, hb⟩ := h.mp; exact ⟨_, clk, hb⟩
 | some l => obtain ⟨clk, born, g, c, hb, -⟩ := h.mp; exact ⟨_, clk, hb⟩
/-- what Sync's region reads. -/
def FlS (F P M : Nat) (W : World) : Prop := W.cell? ⟨F, 0, none⟩ = some (.pointer (some ⟨P, 0, none⟩)) ∧ W.cell? ⟨F, 2, none⟩ = some (.map (some M))
set_option maxRecDepth 100000 in
set_option maxHeartbeats 6400000 in
theorem sync_any {Y : Nat → Prop} {F P M : Nat} {R : Option Nat} {room : Int} {n : Nat} {D : Option (List UInt8)} (w : World) (h : FsM Y w F P M R room n D) : Calls Try.prog 23 #[.pointer (some ⟨F, 0, none⟩)] w fun e w' => e = .returned (.tuple #[]) ∧ FsM Y w' F P M none room 0 D ∧ Kp (fun k => k = P) w w' := by
 have H0 := Lib.hid h
 clear h
 go_enter Try.func23, Try.ntmps23
 go_upto_region 1 with (fail)
 refine wp_region_Z 18 (FlS F P M) (by kernel_rfl) ?_
 have hd : Gr w w.drew := Gr.drew (Gr.refl _)
 obtain ⟨W0, hW0⟩ : ∃ W0, W0 = w.drew := ⟨_, rfl⟩
 rw [← hW0] at hd ⊢
 clear hW0
 have H1 := Lib.hid (H0.out.gr hd)
 have hS0 : FlS F P M W0 := ⟨H1.out.f0, H1.out.f2⟩
 have HD := Lib.hid hd
 clear hd
 refine wpAnyZ_take (i := 0) (v := ?v1) rfl (by kernel_rfl) (fun _ _ _ h => h) (by rfl) (fun W hS => ?h1) hS0 ?r1
 case h1 => go_simp; rfl
 simp only [Act.put, List.getElem_toArray, List.getElem_cons_succ, List.getElem_cons_zero, List.setIfInBounds_toArray, List.set_cons_zero, List.set_cons_succ]
 refine wpAnyZ_take (i := 1) (v := ?v2) rfl (by kernel_rfl) (fun _ _ _ h => h) (by rfl) (fun W hS => ?h2) hS0 ?r2
 case h2 => go_simp; rfl
 simp only [Act.put, List.getElem_toArray, List.getElem_cons_succ, List.getElem_cons_zero, List.setIfInBounds_toArray, List.set_cons_zero, List.set_cons_succ]
 refine wpAnyZ_take (i := 2) (v := ?v3) rfl (by kernel_rfl) (fun _ _ _ h => h) (by rfl) (fun W hS => ?h3) hS0 ?r3
 case h3 => go_simp; rfl
 simp only [Act.put, List.getElem_toArray, List.getElem_cons_succ, List.getElem_cons_zero, List.setIfInBounds_toArray, List.set_cons_zero, List.set_cons_succ]
 refine wpAnyZ_take (i := 3) (v := ?v4) rfl (by kernel_rfl) (fun _ _ _ h => h) (by rfl) (fun W hS => ?h4) hS0 ?r4
 case h4 => have s0 := hS.1; go_simp; rfl
 simp only [Act.put, List.getElem_toArray, List.getElem_cons_succ, List.getElem_cons_zero, List.setIfInBounds_toArray, List.set_cons_zero, List.set_cons_succ]
 refine wpAnyZ_take (i := 4) (v := ?v5) rfl (by kernel_rfl) (fun _ _ _ h => h) (by rfl) (fun W hS => ?h5) hS0 ?r5
 case h5 => go_simp; rfl
 simp only [Act.put, List.getElem_toArray, List.getElem_cons_succ, List.getElem_cons_zero, List.setIfInBounds_toArray, List.set_cons_zero, List.set_cons_succ]
 refine wpAnyZ_take (i := 5) (v := ?v6) rfl (by kernel_rfl) (fun _ _ _ h => h) (by rfl) (fun W hS => ?h6) hS0 ?r6
 case h6 => go_simp; rfl
 simp only [Act.put, List.getElem_toArray, List.getElem_cons_succ, List.getElem_cons_zero, List.setIfInBounds_toArray, List.set_cons_zero, List.set_cons_succ]
 refine wpAnyZ_take (i := 6) (v := ?v7) rfl (by kernel_rfl) (fun _ _ _ h => h) (by rfl) (fun W hS => ?h7) hS0 ?r7
 case h7 => go_simp; rfl
 simp only [Act.put, List.getElem_toArray, List.getElem_cons_succ, List.getElem_cons_zero, List.setIfInBounds_toArray, List.set_cons_zero, List.set_cons_succ]
 refine wpAnyZ_take (i := 7) (v := ?v8) rfl (by kernel_rfl) (fun _ _ _ h => h) (by rfl) (fun W hS => ?h8) hS0 ?r8
 case h8 => have s0 := hS.1; go_simp; rfl
 simp only [Act.put, List.getElem_toArray, List.getElem_cons_succ, List.getElem_cons_zero, List.setIfInBounds_toArray, List.set_cons_zero, List.set_cons_succ]
 refine wpAnyZ_take (i := 8) (v := ?v9) rfl (by kernel_rfl) (fun _ _ _ h => h) (by rfl) (fun W hS => ?h9) hS0 ?r9
 case h9 => go_simp; rfl
 simp only [Act.put, List.getElem_toArray, List.getElem_cons_succ, List.getElem_cons_zero, List.setIfInBounds_toArray, List.set_cons_zero, List.set_cons_succ]
 refine wpAnyZ_take (i := 9) (v := ?v10) rfl (by kernel_rfl) (fun _ _ _ h => h) (by rfl) (fun W hS => ?h10) hS0 ?r10
 case h10 => go_simp; rfl
 simp only [Act.put, List.getElem_toArray, List.getElem_cons_succ, List.getElem_cons_zero, List.setIfInBounds_toArray, List.set_cons_zero, List.set_cons_succ]
 refine wpAnyZ_take (i := 10) (v := ?v11) rfl (by kernel_rfl) (fun _ _ _ h => h) (by rfl) (fun W hS => ?h11) hS0 ?r11
 case h11 => go_simp; rfl
 simp only [Act.put, List.getElem_toArray, List.getElem_cons_succ, List.getElem_cons_zero, List.setIfInBounds_toArray, List.set_cons_zero, List.set_cons_succ]
 refine wpAnyZ_take (i := 11) (v := ?v12) rfl (by kernel_rfl) (fun _ _ _ h => h) (by rfl) (fun W hS => ?h12) hS0 ?r12
 case h12 => have s2 := hS.2; go_simp; rfl
 simp only [Act.put, List.getElem_toArray, List.getElem_cons_succ, List.getElem_cons_zero, List.setIfInBounds_toArray, List.set_cons_zero, List.set_cons_succ]
 refine wpAnyZ_ready (rs := [12]) (by kernel_rfl) (by simp) ?_
 refine AllReadyZ.cons (i := 12) rfl (by kernel_rfl) ?zx1 AllReadyZ.nil
 intro K hK
 simp only [List.getElem_toArray, List.getElem_cons_succ, List.getElem_cons_zero]
 go_simp
 obtain ⟨es, clk, hb⟩ := H1.out.map
 refine (mapclone_any M es clk _ hb).mono ?_; rintro x W1 ⟨rfl, hW1⟩
 have g1 : Gr W0 W1 := by rw [hW1]; exact Gr.alloc (Gr.refl _) _
 have H2 := Lib.hid (H1.out.gr g1)
 have HG := Lib.hid (HD.out.trans g1)
 have hS1 : FlS F P M W1 := ⟨H2.out.f0, H2.out.f2⟩
 clear hW1 g1 hb hS0
 go_wp2_with fail
 refine hK.out _ _ (fun hnz => ?zs2) (fun _ => ?zr3)
 case zs2 => exact hS1
 clear hK K
 try (simp only [Pu, List.getElem_toArray, List.getElem_cons_succ, List.getElem_cons_zero])
 refine wpAnyZ_take (i := 13) (v := ?v13) rfl (by kernel_rfl) (fun _ _ _ h => h) (by rfl) (fun W hS => ?h13) hS1 ?r13
 case h13 => go_simp; rfl
 simp only [Act.put, List.getElem_toArray, List.getElem_cons_succ, List.getElem_cons_zero, List.setIfInBounds_toArray, List.set_cons_zero, List.set_cons_succ]
 refine wpAnyZ_take (i := 14) (v := ?v14) rfl (by kernel_rfl) (fun _ _ _ h => h) (by rfl) (fun W hS => ?h14) hS1 ?r14
 case h14 => go_simp; rfl
 simp only [Act.put, List.getElem_toArray, List.getElem_cons_succ, List.getElem_cons_zero, List.setIfInBounds_toArray, List.set_cons_zero, List.set_cons_succ]
 refine wpAnyZ_ready (rs := [15]) (by kernel_rfl) (by simp) ?_
 refine AllReadyZ.cons (i := 15) rfl (by kernel_rfl) ?zx4 AllReadyZ.nil
 intro K hK
 simp only [List.getElem_toArray, List.getElem_cons_succ, List.getElem_cons_zero]
 obtain ⟨y0, p1⟩ := H2.out.p1
 have z1 := H2.out.z1
 go_simp
 have hS2 : FlS F P M (W1.setCell ⟨P, 1, none⟩ (.map (some W0.heap.size))) := ⟨(World.cell?_setCell_far W1 ⟨P, 1, none⟩ ⟨F, 0, none⟩ _ (fun e => H2.out.nfp e.symm)).trans hS1.1, (World.cell?_setCell_far W1 ⟨P, 1, none⟩ ⟨F, 2, none⟩ _ (fun e => H2.out.nfp e.symm)).trans hS1.2⟩
 refine hK.out _ _ (fun hnz => ?zs5) (fun _ => ?zr6)
 case zs5 => exact hS2
 clear hK K
 try (simp only [Pu, List.getElem_toArray, List.getElem_cons_succ, List.getElem_cons_zero])
 refine wpAnyZ_take (i := 16) (v := ?v15) rfl (by kernel_rfl) (fun _ _ _ h => h) (by rfl) (fun W hS => ?h15) hS2 ?r15
 case h15 => go_simp; rfl
 simp only [Act.put, List.getElem_toArray, List.getElem_cons_succ, List.getElem_cons_zero, List.setIfInBounds_toArray, List.set_cons_zero, List.set_cons_succ]
 refine wpAnyZ_take (i := 17) (v := ?v16) rfl (by kernel_rfl) (fun _ _ _ h => h) (by rfl) (fun W hS => ?h16) hS2 ?r16
 case h16 => go_simp; rfl
 simp only [Act.put, List.getElem_toArray, List.getElem_cons_succ, List.getElem_cons_zero, List.setIfInBounds_toArray, List.set_cons_zero, List.set_cons_succ]
 refine wpAnyZ_ready (rs := [18]) (by kernel_rfl) (by simp) ?_
 refine AllReadyZ.cons (i := 18) rfl (by kernel_rfl) ?zx7 AllReadyZ.nil
 intro K hK
 simp only [List.getElem_toArray, List.getElem_cons_succ, List.getElem_cons_zero]
 obtain ⟨v, xs, v1, -, -⟩ := H2.out.p0
 have q0 : (W1.setCell ⟨P, 1, none⟩ (.map (some W0.heap.size))).cell? ⟨P, 0, none⟩ = some v := (World.cell?_setCell_other W1 ⟨P, 1, none⟩ ⟨P, 0, none⟩ _ (by first | (simp; done) | (simp; omega))).trans v1
 have z0 : (W1.setCell ⟨P, 1, none⟩ (.map (some W0.heap.size))).frozen? ⟨P, 0, none⟩ = false := by rw [World.frozen?_setCell]; exact H2.out.z0
 have HY := Lib.hid (H2.out.synced (.map (some W0.heap.size)))
 go_simp
 refine hK.out _ _ (fun hnz => ?zs8) (fun _ => ?zr9)
 case zs8 => exact absurd rfl hnz
 clear hK K
 try (simp only [Pu, List.getElem_toArray, List.getElem_cons_succ, List.getElem_cons_zero])
 refine wpAnyZ_done (by kernel_rfl) ?_ _
 go_wp2
 go_end0
 exact ⟨rfl, HY.out.1, (Kp.of_gr _ HG.out).trans HY.out.2 (fun _ _ h => h)⟩
end Go.Proofs.Ytoncapkmaeghfaa
