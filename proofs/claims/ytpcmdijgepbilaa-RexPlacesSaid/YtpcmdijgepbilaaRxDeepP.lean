/- Groups within groups, in plain Lean: how they are read. No program in sight. -/
import Derived.Test.YtpcmdijgepbilaaRxGood
namespace Go.Proofs.Ytpcmdijgepbilaa
set_option linter.unusedVariables false
set_option linter.unusedSimpArgs false
open Go.RowKit

def opn (plain : Bool) : List UInt8 := bif plain then [40, 63, 58] else [40]
def dpt (plain : Bool) : Nat → List UInt8
  | 0 => [97]
  | k + 1 => opn plain ++ (dpt plain k ++ [41])
theorem dpt_len (plain : Bool) (k : Nat) : (dpt plain k).length ≤ 1 + 4 * k := by
  induction k with
  | zero => simp [dpt]
  | succ k ih => cases plain <;> (simp [dpt, opn] at ih ⊢; omega)
/-- behind which an expression ends. -/
def Tl (T : List UInt8) : Prop := T = [] ∨ ∃ r, T = 41 :: r
theorem Tl.ends {T : List UInt8} (h : Tl T) : endR T = true := by
  rcases h with rfl | ⟨r, rfl⟩ <;> rfl
theorem piece_one (W : Rs → Pc × Rs) (s t : Rs) (h : (atomS W s).2 = t) (ht : t.bad = true ∨ Tl t.rest) : (pieceS W s).2 = t := by
  unfold pieceS
  generalize atomS W s = x at h ⊢
  subst h
  simp only
  cases hb : x.2.bad
  · simp only [cond_false]
    rcases ht with h | h
    · rw [hb] at h; cases h
    · rcases h with h | ⟨r, h⟩
      · rw [h]
      · rw [h]; rfl
  · rfl
theorem row_stop (W : Rs → Pc × Rs) (n : Nat) (t : Rs) (ht : t.bad = true ∨ Tl t.rest) : (rowS W n t).2 = t := by
  cases n with
  | zero => rfl
  | succ n =>
    unfold rowS
    have : (t.bad || endR t.rest) = true := by
      rcases ht with h | h
      · rw [h]; rfl
      · rw [h.ends, Bool.or_true]
    rw [this]
    rfl
theorem ways_one (m : Nat) (s t : Rs) (hs : s.bad = false) (hn : endR s.rest = false) (h : (atomS (waysS m) s).2 = t) (ht : t.bad = true ∨ Tl t.rest) : (waysS (m + 1) s).2 = t := by
  have h1 : (rowP (waysS m) s).2 = t := by
    unfold rowP
    simp only
    unfold rowS
    rw [hs, hn]
    simp only [Bool.or_self, cond_false]
    rw [piece_one _ s t h ht]
    exact row_stop _ _ _ ht
  simp only [waysS]
  unfold altS
  simp only [h1]
  have : (!t.bad && headIs 124 t.rest) = false := by
    rcases ht with h | h
    · rw [h]; rfl
    · rcases h with h | ⟨r, h⟩ <;> (rw [h]; simp [headIs])
  rw [this]
  rfl
theorem open_dpt (plain : Bool) (k : Nat) (T : List UInt8) (g d : Nat) : (openS ⟨(opn plain ++ (dpt plain k ++ [41]) ++ T).drop 1, g, d, false, false⟩).2 = ⟨dpt plain k ++ 41 :: T, bif plain then g else g + 1, d, false, false⟩ := by
  cases plain
  · cases k <;> simp [openS, opn, dpt, headIs]
  · simp [openS, opn, headIs]
theorem dpt_head (plain : Bool) (k : Nat) (T : List UInt8) : dpt plain (k + 1) ++ T = 40 :: (opn plain ++ (dpt plain k ++ [41]) ++ T).drop 1 := by
  cases plain <;> simp [dpt, opn]
theorem deep_ok (plain : Bool) (k : Nat) : ∀ (m g d : Nat) (T : List UInt8), k < m → d + k ≤ 64 → Tl T → (waysS m ⟨dpt plain k ++ T, g, d, false, false⟩).2 = ⟨T, bif plain then g else g + k, d, false, false⟩ := by
  induction k with
  | zero =>
    intro m g d T hm hd hT
    obtain ⟨m, rfl⟩ : ∃ m', m = m' + 1 := ⟨m - 1, by omega⟩
    refine ways_one m _ _ rfl rfl ?_ (.inr hT)
    cases plain <;> rfl
  | succ k ih =>
    intro m g d T hm hd hT
    obtain ⟨m, rfl⟩ : ∃ m', m = m' + 1 := ⟨m - 1, by omega⟩
    refine ways_one m _ _ rfl (by rw [dpt_head]; rfl) ?_ (.inr hT)
    unfold atomS
    rw [dpt_head]
    simp only
    rw [show ((40 : UInt8).toNat == 40) = true from rfl]
    simp only [cond_true]
    unfold groupS
    rw [show Nat.ble 64 d = false from by rw [← Bool.not_eq_true, Nat.ble_eq]; omega]
    simp only [cond_false]
    rw [open_dpt, ih m _ (d + 1) (41 :: T) (by omega) (by omega) (.inr ⟨T, rfl⟩)]
    simp only [headIs, Bool.false_or]
    rw [show ((41 : UInt8).toNat == 41) = true from rfl]
    cases plain <;> simp <;> omega
theorem deep_bad (plain : Bool) (k : Nat) : ∀ (m g d : Nat) (T : List UInt8), k < m → d ≤ 64 → 64 < d + k → (waysS m ⟨dpt plain k ++ T, g, d, false, false⟩).2.over = true ∧ (waysS m ⟨dpt plain k ++ T, g, d, false, false⟩).2.bad = true := by
  induction k with
  | zero => intro m g d T hm hd h; omega
  | succ k ih =>
    intro m g d T hm hd hk
    obtain ⟨m, rfl⟩ : ∃ m', m = m' + 1 := ⟨m - 1, by omega⟩
    have key : (atomS (waysS m) ⟨dpt plain (k + 1) ++ T, g, d, false, false⟩).2.over = true ∧ (atomS (waysS m) ⟨dpt plain (k + 1) ++ T, g, d, false, false⟩).2.bad = true := by
      unfold atomS
      rw [dpt_head]
      simp only
      rw [show ((40 : UInt8).toNat == 40) = true from rfl]
      simp only [cond_true]
      unfold groupS
      by_cases h64 : d = 64
      · subst h64
        exact ⟨rfl, rfl⟩
      · rw [show Nat.ble 64 d = false from by rw [← Bool.not_eq_true, Nat.ble_eq]; omega]
        simp only [cond_false]
        rw [open_dpt]
        obtain ⟨h1, h2⟩ := ih m (bif plain then g else g + 1) (d + 1) (41 :: T) (by omega) (by omega) (by omega)
        rw [h2]
        simp only [Bool.true_or, cond_true, failS]
        exact ⟨h1, trivial⟩
    rw [ways_one m _ _ rfl (by rw [dpt_head]; rfl) rfl (.inl key.2)]
    exact key
theorem err_deep_ok (plain : Bool) (n : Nat) (h : n ≤ 64) : errX (dpt plain n) = 0 ∧ (readS (dpt plain n)).2.groups = bif plain then 0 else n := by
  have hl : n < (dpt plain n).length + 1 := by
    have : n ≤ (dpt plain n).length := by
      clear h
      induction n with
      | zero => exact Nat.zero_le _
      | succ n ih => cases plain <;> (simp [dpt, opn] at ih ⊢; omega)
    omega
  have := deep_ok plain n ((dpt plain n).length + 1) 0 0 [] hl (by omega) (.inl rfl)
  rw [List.append_nil] at this
  unfold errX readS
  rw [this]
  cases plain <;> simp
theorem err_deep_bad (plain : Bool) (n : Nat) (h : 64 < n) : errX (dpt plain n) = 12 := by
  have hl : n < (dpt plain n).length + 1 := by
    have : n ≤ (dpt plain n).length := by
      clear h
      induction n with
      | zero => exact Nat.zero_le _
      | succ n ih => cases plain <;> (simp [dpt, opn] at ih ⊢; omega)
    omega
  have := deep_bad plain n ((dpt plain n).length + 1) 0 0 [] hl (by omega) (by omega)
  rw [List.append_nil] at this
  unfold errX readS
  rw [this.1]
  rfl
end Go.Proofs.Ytpcmdijgepbilaa
