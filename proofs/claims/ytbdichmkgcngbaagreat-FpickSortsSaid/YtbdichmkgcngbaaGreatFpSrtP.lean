/- What the order that lays each new one where it belongs leaves: sorted; and what is sorted stays. No program in sight. -/
import Derived.Test.YtbdichmkgcngbaaGreatMgE
namespace Go.Proofs.YtbdichmkgcngbaaGreat
set_option linter.unusedVariables false
set_option linter.unusedSimpArgs false
open Go.RowKit

section
variable {α : Type}
/-- an order: not both ways, and what is not ahead passes on. -/
structure Weak (lt : α → α → Bool) : Prop where
  asym : ∀ a b, lt a b = true → lt b a = false
  neg : ∀ a b c, lt a b = false → lt b c = false → lt a c = false
def Srt (lt : α → α → Bool) (l : List α) : Prop := l.Pairwise fun a b => lt b a = false
theorem posR_spec (lt : α → α → Bool) (x : α) (out : List α) : ∀ k, k ≤ out.length → (∀ i (h : i < out.length), posR lt x out k ≤ i → i < k → lt x out[i] = true) ∧ (∀ (h : posR lt x out k - 1 < out.length), 0 < posR lt x out k → lt x (out[posR lt x out k - 1]) = false)
  | 0, _ => ⟨fun i _ _ h => absurd h (Nat.not_lt_zero _), fun _ h => absurd h (Nat.lt_irrefl _)⟩
  | k + 1, hk => by
    have hl : k < out.length := by omega
    cases hb : lt x out[k]
    · have e : posR lt x out (k + 1) = k + 1 := by unfold posR; rw [List.getElem?_eq_getElem hl]; simp [hb]
      rw [e]
      exact ⟨fun i _ h1 h2 => absurd h1 (by omega), fun _ _ => hb⟩
    · have e : posR lt x out (k + 1) = posR lt x out k := by
        conv => lhs; unfold posR
        rw [List.getElem?_eq_getElem hl]; simp [hb]
      rw [e]
      obtain ⟨h1, h2⟩ := posR_spec lt x out k (by omega)
      refine ⟨fun i hi hp hik => ?_, h2⟩
      by_cases he : i = k
      · subst he; exact hb
      · exact h1 i hi hp (by omega)
theorem srt_at {lt : α → α → Bool} {l : List α} (h : Srt lt l) {i j : Nat} (hi : i < l.length) (hj : j < l.length) (hij : i < j) : lt l[j] l[i] = false := List.pairwise_iff_getElem.1 h i j hi hj hij
theorem insR_srt {lt : α → α → Bool} (hw : Weak lt) {out : List α} (hs : Srt lt out) (x : α) : Srt lt (insR lt out x) := by
  obtain ⟨p1, p2⟩ := posR_spec lt x out out.length (Nat.le_refl _)
  have hp := posR_le lt x out out.length
  unfold insR Srt
  generalize posR lt x out out.length = p at p1 p2 hp
  have hd : ∀ b ∈ out.drop p, lt x b = true := fun b hb => by
    obtain ⟨i, hi, rfl⟩ := List.getElem_of_mem hb
    rw [List.getElem_drop]
    simp at hi
    exact p1 (p + i) (by omega) (by omega) (by omega)
  refine List.pairwise_append.2 ⟨hs.sublist (List.take_sublist _ _), List.pairwise_cons.2 ⟨fun b hb => hw.asym _ _ (hd b hb), hs.sublist (List.drop_sublist _ _)⟩, fun a ha b hb => ?_⟩
  obtain ⟨i, hi, rfl⟩ := List.getElem_of_mem ha
  rw [List.getElem_take]
  simp at hi
  rcases List.mem_cons.1 hb with rfl | hb
  · have hz := p2 (by omega) (by omega)
    by_cases he : i = p - 1
    · subst he; exact hz
    · exact hw.neg _ _ _ hz (srt_at hs (by omega) (by omega) (by omega))
  · obtain ⟨j, hj, rfl⟩ := List.getElem_of_mem hb
    rw [List.getElem_drop]
    simp at hj
    exact srt_at hs (by omega) (by omega) (by omega)
theorem sortR_srt_aux {lt : α → α → Bool} (hw : Weak lt) (l : List α) : ∀ o : List α, Srt lt o → Srt lt (l.foldl (insR lt) o) := by
  induction l with
  | nil => intro o h; exact h
  | cons x l ih => intro o h; exact ih _ (insR_srt hw h x)
theorem sortR_srt {lt : α → α → Bool} (hw : Weak lt) (l : List α) : Srt lt (sortR lt l) := sortR_srt_aux hw l [] List.Pairwise.nil
theorem sortR_id {lt : α → α → Bool} {l : List α} (hs : Srt lt l) : sortR lt l = l := by
  have h : ∀ k, k ≤ l.length → sortR lt (l.take k) = l.take k := by
    intro k
    induction k with
    | zero => intro _; rfl
    | succ k ih =>
      intro hk
      rw [sortR_succ lt l (by omega), ih (by omega)]
      have hp : posR lt l[k] (l.take k) (l.take k).length = (l.take k).length := by
        rcases k with _ | k
        · rfl
        · have hlen : (l.take (k + 1)).length = k + 1 := by simp; omega
          rw [hlen]
          have hl : k < (l.take (k + 1)).length := by omega
          unfold posR
          rw [List.getElem?_eq_getElem hl]
          simp only [List.getElem_take]
          rw [srt_at hs (i := k) (j := k + 1) (by omega) (by omega) (by omega)]
          rfl
      unfold insR
      rw [hp, List.take_length, List.drop_length, List.take_succ_eq_append_getElem (by omega)]
  have := h l.length (Nat.le_refl _)
  rwa [List.take_length] at this
theorem sortR_idem {lt : α → α → Bool} (hw : Weak lt) (l : List α) : sortR lt (sortR lt l) = sortR lt l := sortR_id (sortR_srt hw l)
end
theorem ltV_weak {α : Type} (least : Bool) (f : α → Vl) : Weak (fun a b => ltV least (f a) (f b)) := by
  constructor
  · intro a b
    generalize f a = x; generalize f b = y
    obtain ⟨xo, xn⟩ := x
    obtain ⟨yo, yn⟩ := y
    cases xo <;> cases yo <;> cases least <;> simp [ltV] <;> omega
  · intro a b c
    generalize f a = x; generalize f b = y; generalize f c = z
    obtain ⟨xo, xn⟩ := x
    obtain ⟨yo, yn⟩ := y
    obtain ⟨zo, zn⟩ := z
    cases xo <;> cases yo <;> cases zo <;> cases least <;> simp [ltV] <;> omega
theorem bytes_asym : ∀ l m : List UInt8, Op.bytesLess l m = true → Op.bytesLess m l = false
  | [], [] => by intro h; cases h
  | [], _ :: _ => by intro _; rfl
  | _ :: _, [] => by intro h; cases h
  | a :: x, b :: y => by
    intro h
    have ih := bytes_asym x y
    unfold Op.bytesLess at h ⊢
    by_cases h1 : a < b
    · have h2 : ¬ b < a := fun h => absurd (UInt8.lt_trans h1 h) (UInt8.lt_irrefl _)
      have h3 : b ≠ a := fun e => by subst e; exact UInt8.lt_irrefl _ h1
      simp_all
    · by_cases h2 : b < a
      · have h3 : a ≠ b := fun e => by subst e; exact UInt8.lt_irrefl _ h2
        simp_all
      · have he : a = b := UInt8.le_antisymm (UInt8.not_lt.1 h2) (UInt8.not_lt.1 h1)
        subst he
        simp_all
theorem bytes_neg : ∀ l m n : List UInt8, Op.bytesLess l m = false → Op.bytesLess m n = false → Op.bytesLess l n = false
  | [], [], n => by intro _ h; exact h
  | [], _ :: _, _ => by intro h; cases h
  | _ :: _, _, [] => by intros; rfl
  | _ :: _, [], _ :: _ => by intro _ h; cases h
  | a :: x, b :: y, c :: z => by
    intro h k
    have ih := bytes_neg x y z
    unfold Op.bytesLess at h k ⊢
    have hab : ¬ a < b := fun e => by simp [e] at h
    have hbc : ¬ b < c := fun e => by simp [e] at k
    have hac : ¬ a < c := fun e => by
      have h1 := UInt8.not_lt.1 hab
      have h2 := UInt8.not_lt.1 hbc
      exact absurd (UInt8.lt_of_lt_of_le e (UInt8.le_trans h2 h1)) (UInt8.lt_irrefl _)
    by_cases hca : c < a
    · have h3 : a ≠ c := fun e => by subst e; exact UInt8.lt_irrefl _ hca
      simp [hac, h3, hca]
    · have he : a = c := UInt8.le_antisymm (UInt8.not_lt.1 hca) (UInt8.not_lt.1 hac)
      subst he
      have hb1 := UInt8.not_lt.1 hab
      have hb2 := UInt8.not_lt.1 hbc
      have he2 : b = a := UInt8.le_antisymm hb1 hb2
      subst he2
      simp_all
theorem ltN_weak {α : Type} (f : α → ByteArray) : Weak (fun a b => ltN (f a) (f b)) := ⟨fun a b h => bytes_asym _ _ h, fun a b c h k => bytes_neg _ _ _ h k⟩
end Go.Proofs.YtbdichmkgcngbaaGreat
