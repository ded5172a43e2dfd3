/- Plain laws of chapter 18: many values as one are a value; one value alone is itself; a series at its own times is itself. No program in sight. -/
import Derived.Test.YtoikpkgogncdhaaSrBase
namespace Go.Proofs.Ytoikpkgogncdhaa
set_option linter.unusedVariables false
set_option linter.unusedSimpArgs false
open Go.RowKit

theorem plS_mult {s : Sr} (hp : 1 ≤ s.step) (j : Nat) : plS s (s.start + j * s.step) = min s.vals.length j := by
  have hle := plS_le s (s.start + j * s.step)
  apply Nat.le_antisymm
  · refine Nat.le_min.2 ⟨hle, ?_⟩
    rcases Nat.lt_or_ge j (plS s (s.start + j * s.step)) with hlt | hge
    · have hi : j < s.vals.length := by omega
      have := (lt_plS hp _ hi).1 hlt
      omega
    · exact hge
  · rcases Nat.lt_or_ge (plS s (s.start + j * s.step)) (min s.vals.length j) with hlt | hge
    · have hi : plS s (s.start + j * s.step) < s.vals.length := by omega
      have h2 : ¬ (s.start + (plS s (s.start + j * s.step) : Nat) * s.step < s.start + j * s.step) := fun h => Nat.lt_irrefl _ ((lt_plS hp _ hi).2 h)
      have h3 : ((plS s (s.start + j * s.step) : Nat) : Int) * s.step < j * s.step := Int.mul_lt_mul_of_pos_right (by omega) (by omega)
      omega
    · exact hge
theorem within_mult {s : Sr} (hp : 1 ≤ s.step) (a b : Nat) : withinS s (s.start + a * s.step) (s.start + b * s.step) = (s.vals.take b).drop a := by
  unfold withinS
  rw [plS_mult hp, plS_mult hp]
  apply List.ext_getElem?
  intro i
  simp only [List.getElem?_drop, List.getElem?_take]
  by_cases ha : a ≤ s.vals.length
  · rw [Nat.min_eq_right ha]
    by_cases hb : b ≤ s.vals.length
    · rw [Nat.min_eq_right hb]
    · rw [Nat.min_eq_left (by omega)]
      by_cases h : a + i < s.vals.length
      · rw [if_pos h, if_pos (by omega)]
      · rw [if_neg h, List.getElem?_eq_none (by omega)]; split <;> rfl
  · rw [Nat.min_eq_left (by omega), List.getElem?_eq_none (l := s.vals) (i := s.vals.length + i) (by omega), List.getElem?_eq_none (l := s.vals) (i := a + i) (by omega)]
    simp

theorem mdV_isB (a b c : Int) : isB (mdV a b c) = true := by
  unfold mdV; cases mdOk a b c
  · rfl
  · exact ofV_isB _
theorem sumV_isB (a b : Vl) : isB (sumV a b) = true := by
  unfold sumV; cases knB a && knB b
  · rfl
  · exact ofV_isB _
theorem divV_isB (a b : Vl) : isB (divV a b) = true := by
  unfold divV; cases knB a && knB b
  · rfl
  · exact mdV_isB _ _ _
theorem fold_isB (l : List Vl) : ∀ x, isB x = true → isB (l.foldl sumV x) = true := by
  induction l with
  | nil => intro x h; exact h
  | cons v l ih => intro x _; exact ih _ (sumV_isB _ _)
theorem addV_isB (l : List Vl) : isB (addV l) = true := fold_isB l _ (ofV_isB _)
theorem maxV_isB (l : List Vl) : ∀ x, isB x = true → (∀ v ∈ l, isB v = true) → isB (maxV x l) = true := by
  induction l with
  | nil => intro x h _; exact h
  | cons v l ih =>
    intro x h hl
    refine ih _ ?_ (fun u hu => hl u (List.mem_cons_of_mem _ hu))
    show isB (bif lessB x v then v else x) = true
    cases lessB x v
    · exact h
    · exact hl v (List.mem_cons_self ..)
theorem minV_isB (l : List Vl) : ∀ x, isB x = true → (∀ v ∈ l, isB v = true) → isB (minV x l) = true := by
  induction l with
  | nil => intro x h _; exact h
  | cons v l ih =>
    intro x h hl
    refine ih _ ?_ (fun u hu => hl u (List.mem_cons_of_mem _ hu))
    show isB (bif lessB v x then v else x) = true
    cases lessB v x
    · exact h
    · exact hl v (List.mem_cons_self ..)
theorem knB_isB {v : Vl} (h : knB v = true) : isB v = true := by
  unfold knB at h; rw [Bool.and_eq_true] at h; exact h.2
theorem aggV_isB (kind : Int) (l : List Vl) : isB (aggV kind l) = true := by
  have hK : ∀ v ∈ kn l, isB v = true := fun v hv => knB_isB (List.mem_filter.1 hv).2
  unfold aggV ofK
  generalize kn l = K at hK
  repeat' split
  · exact addV_isB _
  · exact divV_isB _ _
  · exact hK _ (List.getElem_mem _)
  · exact maxV_isB _ _ (hK _ (List.getElem_mem _)) hK
  · exact minV_isB _ _ (hK _ (List.getElem_mem _)) hK
  · rfl
  · rfl

theorem lessB_irr (v : Vl) : lessB v v = false := by simp [lessB]
theorem isB_none {v : Vl} (h : isB v = true) (hk : knB v = false) : v = ⟨false, 0⟩ := by
  obtain ⟨ok, n⟩ := v
  cases ok
  · simp [isB] at h; rw [h]
  · simp [knB, h] at hk
theorem rq_one (m : Nat) : rq (m * 1000000) 1000000 = m := by
  unfold rq
  rw [Nat.mul_mod_left, Nat.mul_div_cancel _ (Nat.succ_pos _), if_neg (by omega), Nat.add_zero]
theorem md_one {n : Int} (h0 : -4611686018427387904 ≤ n) (h1 : n ≤ 4611686018427387904) : mdV n 1000000 1000000 = ⟨true, n⟩ := by
  have hr : rq (n.natAbs * (1000000 : Int).natAbs) (1000000 : Int).natAbs = n.natAbs := rq_one n.natAbs
  have hok : mdOk n 1000000 1000000 = true := mdOk_yes (by omega) (by rw [hr]; omega)
  have hneg : mdNeg n 1000000 1000000 = decide (n < 0) := by
    unfold mdNeg
    generalize hd : decide ((1000000 : Int) < 0) = d
    cases decide (n < 0) <;> cases d <;> rfl
  have hn : mdN n 1000000 1000000 = n := by
    unfold mdN
    rw [hok, hr, hneg]
    by_cases hneg : n < 0
    · rw [decide_eq_true hneg]; show -(n.natAbs : Int) = n; omega
    · rw [decide_eq_false hneg]; show (n.natAbs : Int) = n; omega
  unfold mdV
  rw [hok, hn]
  exact ofV_in h0 h1
theorem addV_one {v : Vl} (h : knB v = true) : addV [v] = v := by
  obtain ⟨hok, h0, h1⟩ := (knB_iff v).1 h
  show sumV (ofV 0) v = v
  have e : ofV 0 = ⟨true, 0⟩ := by rfl
  have hk : knB ⟨true, 0⟩ = true := rfl
  unfold sumV
  rw [e, hk, h]
  show ofV (0 + v.n) = v
  rw [Int.zero_add, ofV_in h0 h1, ← hok]
theorem int_one : intV 1 = ⟨true, 1000000⟩ := by
  unfold intV
  rw [decide_eq_true (by omega : (-4611686018427 : Int) ≤ 1), decide_eq_true (by omega : (1 : Int) ≤ 4611686018427)]
  have h : ofV 1000000 = ⟨true, 1000000⟩ := ofV_in (by omega) (by omega)
  rw [← h]
  rfl
theorem div_one {v : Vl} (hk : knB v = true) : divV v ⟨true, 1000000⟩ = v := by
  obtain ⟨hok, h0, h1⟩ := (knB_iff v).1 hk
  have hq : knB ⟨true, 1000000⟩ = true := (knB_iff _).2 ⟨rfl, by show (-4611686018427387904 : Int) ≤ 1000000; omega, by show (1000000 : Int) ≤ 4611686018427387904; omega⟩
  have e : divV v ⟨true, 1000000⟩ = bif knB v && knB ⟨true, 1000000⟩ then mdV v.n 1000000 1000000 else ⟨false, 0⟩ := rfl
  rw [e, hk, hq, md_one h0 h1]
  show (⟨true, v.n⟩ : Vl) = v
  rw [← hok]
/-- one value alone, in any way: itself. -/
theorem aggV_one {kind : Int} {v : Vl} (h : isB v = true) (k0 : 1 ≤ kind) (k1 : kind ≤ 5) : aggV kind [v] = v := by
  cases hk : knB v
  · have e := isB_none h hk
    subst e
    simp [aggV, kn, hk, ofK]
  · have e : kn [v] = [v] := by simp [kn, hk]
    unfold aggV
    rw [e]
    unfold ofK
    rw [dif_pos (by simp)]
    rcases (show kind = 1 ∨ kind = 2 ∨ kind = 3 ∨ kind = 4 ∨ kind = 5 by omega) with rfl | rfl | rfl | rfl | rfl
    · rw [if_neg (by decide), if_pos rfl, addV_one hk]
      show divV v (intV 1) = v
      rw [int_one, div_one hk]
    · rw [if_pos rfl, addV_one hk]
    · rfl
    · show maxV v [v] = v
      simp [maxV, lessB_irr]
    · show minV v [v] = v
      simp [minV, lessB_irr]

theorem drop_one {l : List Vl} {i : Nat} (h : i < l.length) : (l.take (i + 1)).drop i = [l[i]] := by
  rw [drop_take_succ h (Nat.le_refl i), drop_take_none (Nat.le_refl i), List.nil_append]
theorem consS_one {s : Sr} (h : Ok s) : 1 ≤ consS s ∧ consS s ≤ 5 := by
  have := h.c0; have := h.c1
  unfold consS
  repeat' split
  all_goals omega
theorem fitV_mult {s : Sr} (hp : 1 ≤ s.step) (k i : Nat) : fitV s s.start (k * s.step) i = aggV (consS s) ((s.vals.take (i * k + k)).drop (i * k)) := by
  unfold fitV
  have e1 : s.start + (i : Int) * (k * s.step) = s.start + ((i * k : Nat) : Int) * s.step := by
    rw [← Int.mul_assoc]; simp
  have e2 : s.start + (i : Int) * (k * s.step) + k * s.step = s.start + ((i * k + k : Nat) : Int) * s.step := by
    rw [e1, Int.natCast_add, Int.add_mul]; omega
  rw [e2, e1, within_mult hp]
theorem fit_self {s : Sr} (h : Ok s) : fitL s s.start s.step s.vals.length = s.vals := by
  apply List.ext_getElem
  · simp [fitL]
  · intro i h1 h2
    have e := fitV_mult h.p0 1 i
    rw [show ((1 : Nat) : Int) * s.step = s.step by simp, Nat.mul_one, drop_one h2] at e
    simp only [fitL, List.getElem_map, List.getElem_range]
    rw [e]
    obtain ⟨k0, k1⟩ := consS_one h
    exact aggV_one (List.all_eq_true.1 h.all _ (List.getElem_mem _)) k0 k1
theorem fit_itself {s : Sr} (h : Ok s) : fitS s s.start s.step s.vals.length = s := by
  unfold fitS
  split
  · rw [Int.toNat_natCast, fit_self h]
  · rfl
end Go.Proofs.Ytoikpkgogncdhaa
