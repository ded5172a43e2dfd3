/- Classes of bytes that are told by their numbers, in plain Lean: how they are read, and what their runs hold. No program in sight. -/
import Derived.Test.YtpcmdijgepbilaaRxDeepP
import Derived.Test.YtpcmdijgepbilaaRxHas
namespace Go.Proofs.Ytpcmdijgepbilaa
set_option linter.unusedVariables false
set_option linter.unusedSimpArgs false
open Go.RowKit

def evn : List UInt8 → Bool
  | [] => true
  | [_] => false
  | _ :: _ :: r => evn r
theorem hasS_app : ∀ (L M : List UInt8) (c : Int), evn L = true → hasS (L ++ M) c = (hasS L c || hasS M c)
  | [], M, c, _ => by simp [hasS]
  | [_], M, c, h => by cases h
  | a :: b :: r, M, c, h => by simp only [List.cons_append, hasS, hasS_app r M c h, Bool.or_assoc]
theorem evn_app : ∀ (L M : List UInt8), evn L = true → evn (L ++ M) = evn M
  | [], M, _ => rfl
  | [_], M, h => by cases h
  | a :: b :: r, M, h => by simp only [List.cons_append, evn]; exact evn_app r M h
theorem toNat_ofNat {k : Nat} (h : k < 256) : (UInt8.ofNat k).toNat = k := by simp; omega
/-- how the runs of the first k bytes stand. -/
def RunsAt (f : Bs) (k : Nat) : Prop :=
  (∃ L a, pairsT f k = L ++ [UInt8.ofNat a] ∧ evn L = true ∧ a < k ∧ k ≤ 255 ∧ f k = true ∧ f (k - 1) = true ∧ (∀ j, a ≤ j → j < k → f j = true) ∧ ∀ c : Nat, c < 256 → hasS L c = (decide (c < a) && f c)) ∨
  (¬ (0 < k ∧ k ≤ 255 ∧ f (k - 1) = true ∧ f k = true) ∧ evn (pairsT f k) = true ∧ ∀ c : Nat, c < 256 → hasS (pairsT f k) c = (decide (c < k) && f c))
theorem runs_pair {a k c : Nat} (ha : a < 256) (hk : k < 256) : hasS [UInt8.ofNat a, UInt8.ofNat k] c = (decide (a ≤ c) && decide (c ≤ k)) := by
  simp only [hasS, Bool.or_false]
  rw [toNat_ofNat ha, toNat_ofNat hk]
  congr 1 <;> (apply decide_eq_decide.2; omega)
theorem runs_at (f : Bs) : ∀ k, k ≤ 256 → RunsAt f k := by
  intro k
  induction k with
  | zero => intro _; exact .inr ⟨by omega, rfl, fun c _ => by simp [pairsT, hasS]⟩
  | succ k ih =>
    intro hk
    have h := ih (by omega)
    cases hf : f k
    · rcases h with ⟨L, a, _, _, _, _, h6, _⟩ | ⟨h1, h2, h3⟩
      · rw [hf] at h6; cases h6
      · have e : pairsT f (k + 1) = pairsT f k := by simp [pairsT, hf]
        refine .inr ⟨by rw [Nat.add_sub_cancel, hf]; simp, by rw [e]; exact h2, fun c hc => ?_⟩
        rw [e, h3 c hc]
        by_cases hck : c = k
        · subst hck; simp [hf]
        · congr 1
          apply decide_eq_decide.2; omega
    · by_cases he : k = 255 ∨ f (k + 1) = false
      · have hend : (k == 255 || !f (k + 1)) = true := by rcases he with h | h <;> simp [h]
        have hcl : ¬ (0 < k + 1 ∧ k + 1 ≤ 255 ∧ f (k + 1 - 1) = true ∧ f (k + 1) = true) := by
          rcases he with h | h
          · omega
          · rw [h]; simp
        rcases h with ⟨L, a, h1, h2, h3, h4, h5, h6, h7, h8⟩ | ⟨h1, h2, h3⟩
        · have hst : (k == 0 || !f (k - 1)) = false := by rw [h6]; simp; omega
          have e : pairsT f (k + 1) = L ++ [UInt8.ofNat a, UInt8.ofNat k] := by simp [pairsT, hf, hst, hend, h1]
          refine .inr ⟨hcl, by rw [e, evn_app _ _ h2]; rfl, fun c hc => ?_⟩
          rw [e, hasS_app _ _ _ h2, h8 c hc, runs_pair (by omega) (by omega)]
          by_cases c1 : c < a
          · have : c < k + 1 := by omega
            simp [c1, this]
            omega
          · by_cases c2 : c ≤ k
            · have : f c = true := by
                by_cases c3 : c = k
                · subst c3; exact hf
                · exact h7 c (by omega) (by omega)
              have c4 : c < k + 1 := by omega
              have c5 : a ≤ c := by omega
              simp [this, c1, c2, c4, c5]
            · have c3 : ¬ c < k + 1 := by omega
              simp [c1, c2, c3]
        · have hst : (k == 0 || !f (k - 1)) = true := by
            by_cases h0 : k = 0
            · simp [h0]
            · have : f (k - 1) = false := by
                cases e : f (k - 1)
                · rfl
                · exact absurd ⟨by omega, by omega, e, hf⟩ h1
              simp [this]
          have e : pairsT f (k + 1) = pairsT f k ++ [UInt8.ofNat k, UInt8.ofNat k] := by simp [pairsT, hf, hst, hend]
          refine .inr ⟨hcl, by rw [e, evn_app _ _ h2]; rfl, fun c hc => ?_⟩
          rw [e, hasS_app _ _ _ h2, h3 c hc, runs_pair (by omega) (by omega)]
          by_cases c1 : c < k
          · have : c < k + 1 := by omega
            simp [c1, this]
            omega
          · by_cases c2 : c = k
            · subst c2; simp [hf]
            · have c3 : ¬ c < k + 1 := by omega
              have c4 : ¬ c ≤ k := by omega
              simp [c1, c3, c4]
      · have he1 : k ≠ 255 := fun h => he (.inl h)
        have he2 : f (k + 1) = true := by
          cases e : f (k + 1)
          · exact absurd (.inr e) he
          · rfl
        have hend : (k == 255 || !f (k + 1)) = false := by simp [he1, he2]
        rcases h with ⟨L, a, h1, h2, h3, h4, h5, h6, h7, h8⟩ | ⟨h1, h2, h3⟩
        · have hst : (k == 0 || !f (k - 1)) = false := by rw [h6]; simp; omega
          have e : pairsT f (k + 1) = L ++ [UInt8.ofNat a] := by simp [pairsT, hf, hst, hend, h1]
          refine .inl ⟨L, a, e, h2, by omega, by omega, he2, by rw [Nat.add_sub_cancel]; exact hf, fun j hj hj' => ?_, h8⟩
          by_cases c3 : j = k
          · subst c3; exact hf
          · exact h7 j hj (by omega)
        · have hst : (k == 0 || !f (k - 1)) = true := by
            by_cases h0 : k = 0
            · simp [h0]
            · have : f (k - 1) = false := by
                cases e : f (k - 1)
                · rfl
                · exact absurd ⟨by omega, by omega, e, hf⟩ h1
              simp [this]
          have e : pairsT f (k + 1) = pairsT f k ++ [UInt8.ofNat k] := by simp [pairsT, hf, hst, hend]
          refine .inl ⟨pairsT f k, k, e, h2, by omega, by omega, he2, by rw [Nat.add_sub_cancel]; exact hf, fun j hj hj' => ?_, h3⟩
          obtain rfl : j = k := by omega
          exact hf
theorem has_pairs (f : Bs) (c : Nat) (hc : c < 256) : hasS (pairsS f) c = f c := by
  rcases runs_at f 256 (Nat.le_refl _) with ⟨_, _, _, _, _, h4, _⟩ | ⟨_, _, h⟩
  · omega
  · unfold pairsS
    rw [h c hc]
    simp [hc]

def alnB (b : Nat) : Bool := (Nat.ble 97 b && Nat.ble b 122) || ((Nat.ble 65 b && Nat.ble b 90) || (Nat.ble 48 b && Nat.ble b 57))
/-- a byte, with a stroke where it needs one. -/
def esc1 (b : UInt8) : List UInt8 := bif alnB b.toNat then [b] else [92, b]
def escL (l : List UInt8) : List UInt8 := l.flatMap esc1
theorem side_esc (b : UInt8) (r : List UInt8) : sideS (esc1 b ++ r) = (some (oneB b.toNat, b.toNat, false), r) := by
  have hb := b.toNat_lt
  cases ha : alnB b.toNat
  · have h1 : namedB b.toNat = none := by
      unfold namedB
      have hn : ∀ x, alnB x = true → (b.toNat == x) = false := fun x hx => by
        apply beq_eq_false_iff_ne.2
        intro e
        rw [e, hx] at ha
        cases ha
      rw [hn 100 rfl, hn 68 rfl, hn 119 rfl, hn 87 rfl, hn 115 rfl, hn 83 rfl]
      rfl
    have h2 : isWordB b.toNat = false := by
      unfold isWordB wordB orB digB runB
      unfold alnB at ha
      simp only [Bool.or_eq_false_iff, Bool.and_eq_false_iff] at ha
      simp only [Bool.and_eq_false_iff, Bool.or_eq_false_iff, Bool.not_eq_false', beq_iff_eq]
      by_cases h95 : b.toNat = 95
      · right; exact h95
      · left
        refine ⟨⟨⟨ha.2.2, ha.1⟩, ha.2.1⟩, ?_⟩
        rw [← Bool.not_eq_true, ← Bool.not_eq_true, Nat.ble_eq, Nat.ble_eq]
        omega
    simp [esc1, ha, sideS, escS, h1, h2, isNamed]
  · have h92 : (b.toNat == 92) = false := by
      apply beq_eq_false_iff_ne.2
      intro e
      rw [e] at ha
      cases ha
    simp [esc1, ha, sideS, h92]
theorem esc_head (b : UInt8) (r : List UInt8) : ∃ x q, esc1 b ++ r = x :: q ∧ (alnB x.toNat = true ∨ x = 92) := by
  cases ha : alnB b.toNat
  · exact ⟨92, b :: r, by simp [esc1, ha], .inr rfl⟩
  · exact ⟨b, r, by simp [esc1, ha], .inl ha⟩
theorem head_ne {x : UInt8} {q : List UInt8} (h : alnB x.toNat = true ∨ x = 92) {c : Nat} (hc : alnB c = false) (h92 : c ≠ 92) : headIs c (x :: q) = false := by
  simp only [headIs]
  apply beq_eq_false_iff_ne.2
  intro e
  rcases h with h | h
  · rw [e, hc] at h; cases h
  · subst h; exact h92 e.symm
/-- what stands behind a byte of the class makes no range. -/
theorem no_range (l : List UInt8) : rangesS (escL l ++ [93]) = false := by
  cases l with
  | nil => rfl
  | cons b l =>
    obtain ⟨x, q, e, hx⟩ := esc_head b (escL l ++ [93])
    have : escL (b :: l) ++ [93] = x :: q := by rw [← e]; simp [escL]
    rw [this]
    have h45 := head_ne (q := q) hx (c := 45) rfl (by decide)
    simp only [headIs] at h45
    cases q with
    | nil => rfl
    | cons d r => simp [rangesS, h45]
theorem cls_esc : ∀ (l : List UInt8) (k : Nat) (first : Bool) (all : Bs), l.length < k → (first = true → l ≠ []) → ∃ f, clsS k first all (escL l ++ [93]) = (some f, []) ∧ ∀ c, f c = (all c || l.any (fun b => c == b.toNat)) := by
  intro l
  induction l with
  | nil =>
    intro k first all hk hf
    have hff : first = false := by cases first with | false => rfl | true => exact absurd rfl (hf rfl)
    subst hff
    obtain ⟨k, rfl⟩ : ∃ m, k = m + 1 := ⟨k - 1, by simp at hk; omega⟩
    exact ⟨all, by simp [clsS, escL, headIs], fun c => by simp⟩
  | cons b l ih =>
    intro k first all hk hf
    obtain ⟨k, rfl⟩ : ∃ m, k = m + 1 := ⟨k - 1, by simp at hk; omega⟩
    have e : escL (b :: l) ++ [93] = esc1 b ++ (escL l ++ [93]) := by simp [escL]
    obtain ⟨x, q, e2, hx⟩ := esc_head b (escL l ++ [93])
    have h93 := head_ne (q := q) hx (c := 93) rfl (by decide)
    obtain ⟨f, h1, h2⟩ := ih k false (orB all (oneB b.toNat)) (by simp at hk; omega) (fun h => by cases h)
    refine ⟨f, ?_, fun c => ?_⟩
    · unfold clsS
      rw [e, e2, h93, ← e2, side_esc]
      simp only [Bool.not_false, Bool.or_true, cond_true, no_range, Bool.and_false, cond_false]
      exact h1
    · rw [h2 c]
      simp [orB, oneB, Bool.or_assoc]
theorem escL_len (l : List UInt8) : l.length ≤ (escL l).length ∧ (escL l).length ≤ 2 * l.length := by
  induction l with
  | nil => simp [escL]
  | cons b l ih =>
    have e : escL (b :: l) = esc1 b ++ escL l := by simp [escL]
    rw [e, List.length_append]
    cases ha : alnB b.toNat <;> (simp only [esc1, ha, cond_true, cond_false, List.length_cons, List.length_nil]; omega)
def inL (l : List UInt8) : Bs := fun c => l.any (fun b => c == b.toNat)
theorem class_in {l : List UInt8} (h : l ≠ []) : ∃ f, classS (escL l ++ [93]) = (some f, []) ∧ ∀ c, f c = inL l c := by
  have h94 : headIs 94 (escL l ++ [93]) = false := by
    cases l with
    | nil => exact absurd rfl h
    | cons b l =>
      obtain ⟨x, q, e, hx⟩ := esc_head b (escL l ++ [93])
      have : escL (b :: l) ++ [93] = x :: q := by rw [← e]; simp [escL]
      rw [this]
      exact head_ne hx rfl (by decide)
  obtain ⟨f, h1, h2⟩ := cls_esc l ((escL l ++ [93]).length + 1) true noB (by have := escL_len l; simp; omega) (fun _ => h)
  exact ⟨f, by unfold classS; rw [h94]; exact h1, fun c => by rw [h2 c]; rfl⟩
theorem class_out {l : List UInt8} (h : l ≠ []) : ∃ f, classS (94 :: (escL l ++ [93])) = (some f, []) ∧ ∀ c, f c = !inL l c := by
  obtain ⟨f, h1, h2⟩ := cls_esc l (94 :: (escL l ++ [93])).length true noB (by have := escL_len l; simp; omega) (fun _ => h)
  refine ⟨notB f, ?_, fun c => by show (!f c) = _; rw [h2 c]; rfl⟩
  unfold classS
  rw [show headIs 94 (94 :: (escL l ++ [93])) = true from rfl]
  simp only [cond_true, List.drop_succ_cons, List.drop_zero]
  rw [h1]
/-- an expression that is one class. -/
theorem read_class {r : List UInt8} {f : Bs} (h : classS r = (some f, [])) : readS (91 :: r) = (.row (.cons (.leaf 1 (pairsS f)) .nil), ⟨[], 0, 0, false, false⟩) := by
  have ha : ∀ W, atomS W ⟨91 :: r, 0, 0, false, false⟩ = (.leaf 1 (pairsS f), ⟨[], 0, 0, false, false⟩) := fun W => by
    unfold atomS
    simp only
    rw [show ((91 : UInt8).toNat == 40) = false from rfl, show ((91 : UInt8).toNat == 94) = false from rfl, show ((91 : UInt8).toNat == 36) = false from rfl, show ((91 : UInt8).toNat == 46) = false from rfl, show ((91 : UInt8).toNat == 91) = true from rfl]
    simp only [cond_true, cond_false, h, setS]
  have hp : ∀ W, pieceS W ⟨91 :: r, 0, 0, false, false⟩ = (.leaf 1 (pairsS f), ⟨[], 0, 0, false, false⟩) := fun W => by
    unfold pieceS
    rw [ha]
    rfl
  have hr : ∀ W, rowP W ⟨91 :: r, 0, 0, false, false⟩ = (.row (.cons (.leaf 1 (pairsS f)) .nil), ⟨[], 0, 0, false, false⟩) := fun W => by
    unfold rowP
    simp only
    unfold rowS
    rw [show (endR (91 :: r)) = false from rfl]
    simp only [Bool.or_self, cond_false, hp]
    have : rowS W (91 :: r).length ⟨[], 0, 0, false, false⟩ = (.nil, ⟨[], 0, 0, false, false⟩) := by
      simp only [List.length_cons]
      unfold rowS
      rfl
    rw [this]
  unfold readS
  simp only [waysS]
  have hal : altS (waysS (91 :: r).length) ((91 :: r).length + 1) ⟨91 :: r, 0, 0, false, false⟩ = (.cons (.row (.cons (.leaf 1 (pairsS f)) .nil)) .nil, ⟨[], 0, 0, false, false⟩) := by
    unfold altS
    simp only [hr]
    rfl
  simp only [hal]
  rfl
theorem code_class {r : List UInt8} {f : Bs} (h : classS r = (some f, [])) : errX (91 :: r) = 0 ∧ codeX (91 :: r) = [⟨4, 0, 0, []⟩, ⟨1, 0, 0, pairsS f⟩, ⟨4, 1, 0, []⟩, ⟨7, 0, 0, []⟩] := by
  have := read_class h
  unfold errX codeX
  rw [this]
  exact ⟨rfl, by simp [Pc.lay, PcL.layR]⟩
end Go.Proofs.Ytpcmdijgepbilaa
