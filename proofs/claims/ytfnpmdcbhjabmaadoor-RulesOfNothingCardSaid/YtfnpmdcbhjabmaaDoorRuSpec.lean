/- Chapter 25 in plain Lean: whole numbers, intervals, retentions. No program in sight. -/
import Derived.WalkKit
namespace Go.Proofs.YtfnpmdcbhjabmaaDoor
set_option linter.unusedVariables false
set_option linter.unusedSimpArgs false
open Go.RowKit

def isDg (c : UInt8) : Bool := Nat.ble 48 c.toNat && Nat.ble c.toNat 57
theorem isDg_iff (c : UInt8) : isDg c = true ↔ 48 ≤ c.toNat ∧ c.toNat ≤ 57 := by simp [isDg, Nat.ble_eq]
theorem isDg_not (c : UInt8) : isDg c = false ↔ c.toNat < 48 ∨ 57 < c.toNat := by
  rw [Bool.eq_false_iff, ne_eq, isDg_iff]; omega
/-- one or more digits. -/
def allDg (l : List UInt8) : Bool := l.all isDg && !l.isEmpty
def maxN : Nat := 4611686018427387904
/-- digits as a number, none above the greatest. -/
def numS : List UInt8 → Nat → Option Nat
  | [], n => some n
  | c :: r, n => bif Nat.blt ((maxN - (c.toNat - 48)) / 10) n then none else numS r (n * 10 + (c.toNat - 48))
/-- a number without its noughts ahead, but one. -/
def stripS : List UInt8 → List UInt8
  | [] => []
  | [c] => [c]
  | c :: d :: r => bif c == 48 then stripS (d :: r) else c :: d :: r
def minusS (l : List UInt8) : Bool := match l with | [] => false | c :: _ => c == 45
def tailS (l : List UInt8) : List UInt8 := bif minusS l then l.drop 1 else l
def wholeN (l : List UInt8) : Option Nat := bif allDg (tailS l) then numS (tailS l) 0 else none
def wholeS (l : List UInt8) : Option Int := (wholeN l).map fun n : Nat => bif minusS l then -(n : Int) else (n : Int)
theorem numS_le (l : List UInt8) : ∀ n m, numS l n = some m → (l = [] → n ≤ maxN) → l.all isDg = true → m ≤ maxN ∧ n * 10 ^ l.length ≤ m := by
  induction l with
  | nil => intro n m h h0 _; simp only [numS, Option.some.injEq] at h; subst h; exact ⟨h0 rfl, by simp⟩
  | cons c r ih =>
    intro n m h _ hd
    unfold numS at h
    simp only [List.all_cons, Bool.and_eq_true, isDg_iff] at hd
    cases hb : Nat.blt ((maxN - (c.toNat - 48)) / 10) n
    · rw [hb] at h
      simp only [cond_false] at h
      have hle : n ≤ (maxN - (c.toNat - 48)) / 10 := by
        rcases Nat.lt_or_ge ((maxN - (c.toNat - 48)) / 10) n with h1 | h1
        · rw [← Nat.blt_eq] at h1; rw [h1] at hb; cases hb
        · exact h1
      obtain ⟨h2, h3⟩ := ih _ _ h (fun _ => by unfold maxN at *; omega) hd.2
      refine ⟨h2, Nat.le_trans ?_ h3⟩
      rw [List.length_cons, Nat.pow_succ, Nat.mul_comm (10 ^ r.length) 10, ← Nat.mul_assoc]
      exact Nat.mul_le_mul_right _ (Nat.le_add_right _ _)
    · rw [hb] at h; cases h
theorem strip_all : ∀ l : List UInt8, l.all isDg = true → (stripS l).all isDg = true
  | [], _ => rfl
  | [c], h => h
  | c :: d :: r, h => by
    unfold stripS
    cases (c == 48)
    · exact h
    · simp only [List.all_cons, Bool.and_eq_true] at h
      exact strip_all (d :: r) (by simp only [List.all_cons, Bool.and_eq_true]; exact h.2)
theorem strip_num : ∀ l : List UInt8, numS (stripS l) 0 = numS l 0
  | [] => rfl
  | [c] => rfl
  | c :: d :: r => by
    unfold stripS
    cases hc : (c == 48)
    · rfl
    · simp only [cond_true]
      rw [strip_num (d :: r)]
      have : c = 48 := by simpa using hc
      subst this
      conv => rhs; unfold numS
      rfl
theorem strip_head : ∀ l : List UInt8, ∀ c d r, stripS l = c :: d :: r → c ≠ 48
  | [], _, _, _, h => by cases h
  | [_], _, _, _, h => by cases h
  | a :: b :: t, c, d, r, h => by
    unfold stripS at h
    cases hc : (a == 48)
    · rw [hc] at h
      simp only [cond_false] at h
      injection h with h1 h2
      subst h1
      simpa using hc
    · rw [hc] at h
      exact strip_head (b :: t) c d r h
/-- more than nineteen digits are too many. -/
theorem strip_long (l : List UInt8) (hd : l.all isDg = true) (h : 19 < (stripS l).length) : numS l 0 = none := by
  rw [← strip_num]
  have hd2 := strip_all l hd
  have hh := strip_head l
  generalize stripS l = t at *
  match t, h with
  | c :: d :: r, h =>
    have hc := hh c d r rfl
    simp only [List.all_cons, Bool.and_eq_true, isDg_iff] at hd2
    have hc1 : 49 ≤ c.toNat := by
      have : c.toNat ≠ 48 := fun e => hc (by rw [← UInt8.toNat_inj]; exact e)
      omega
    unfold numS
    rw [show Nat.blt ((maxN - (c.toNat - 48)) / 10) 0 = false from rfl]
    simp only [cond_false]
    cases e : numS (d :: r) (0 * 10 + (c.toNat - 48)) with
    | none => rfl
    | some m =>
      obtain ⟨h2, h3⟩ := numS_le _ _ _ e (fun h => by cases h) (by simp only [List.all_cons, Bool.and_eq_true, isDg_iff]; exact hd2.2)
      exfalso
      have h4 : 1 * 10 ^ 19 ≤ (0 * 10 + (c.toNat - 48)) * 10 ^ (d :: r).length := by
        refine Nat.mul_le_mul (by omega) (Nat.pow_le_pow_right (by decide) ?_)
        simp at h ⊢; omega
      have h5 : maxN < 1 * 10 ^ 19 := by decide
      omega

/-- how many digits a text begins with. -/
def dgN : List UInt8 → Nat
  | [] => 0
  | c :: r => bif isDg c then dgN r + 1 else 0
theorem dgN_le : ∀ l, dgN l ≤ l.length
  | [] => Nat.le_refl _
  | c :: r => by
    unfold dgN
    cases isDg c
    · simp
    · simp only [cond_true, List.length_cons]; have := dgN_le r; omega
theorem dgN_take : ∀ l : List UInt8, (l.take (dgN l)).all isDg = true
  | [] => rfl
  | c :: r => by
    unfold dgN
    cases h : isDg c
    · rfl
    · simp only [cond_true, List.take_succ_cons, List.all_cons, Bool.and_eq_true]
      exact ⟨h, dgN_take r⟩
/-- the names of units. -/
def names : List (List (List UInt8) × Nat) := [
  ([[115], [115, 101, 99], [115, 101, 99, 115], [115, 101, 99, 111, 110, 100], [115, 101, 99, 111, 110, 100, 115]], 1),
  ([[109, 105, 110], [109, 105, 110, 115], [109, 105, 110, 117, 116, 101], [109, 105, 110, 117, 116, 101, 115]], 60),
  ([[104], [104, 111, 117, 114], [104, 111, 117, 114, 115]], 3600),
  ([[100], [100, 97, 121], [100, 97, 121, 115]], 86400),
  ([[119], [119, 101, 101, 107], [119, 101, 101, 107, 115]], 604800),
  ([[109, 111, 110], [109, 111, 110, 116, 104], [109, 111, 110, 116, 104, 115]], 2592000),
  ([[121], [121, 101, 97, 114], [121, 101, 97, 114, 115]], 31536000)]
def inL (l : List UInt8) (m : List (List UInt8)) : Bool := m.any fun x => x == l
def unitF (l : List UInt8) : List (List (List UInt8) × Nat) → Nat
  | [] => 0
  | (m, u) :: r => bif inL l m then u else unitF l r
def unitS (l : List UInt8) : Nat := unitF l names
def maxTime : Nat := 4294967295
/-- an interval without a sign. -/
def intvS (l : List UInt8) : Option Nat :=
  match wholeN (l.take (dgN l)) with
  | none => none
  | some n => bif unitS (l.drop (dgN l)) == 0 then none else bif Nat.blt (maxTime / unitS (l.drop (dgN l))) n then none else some (n * unitS (l.drop (dgN l)))
def signB (l : List UInt8) : Bool := match l with | [] => true | c :: _ => c == 45 || c == 43
/-- a number of seconds, or of points, without a sign. -/
def unsS (l : List UInt8) : Option (Nat × Bool) :=
  bif signB l then none else
  match wholeN l with
  | some n => some (n, false)
  | none => (intvS l).map fun n => (n, true)
/-- what stands ahead of the first such byte, and behind it. -/
def cutS (c : UInt8) : List UInt8 → Option (List UInt8 × List UInt8)
  | [] => none
  | x :: r => bif x == c then some ([], r) else (cutS c r).map fun p => (x :: p.1, p.2)
/-- what stands between such bytes. -/
def partS (c : UInt8) : List UInt8 → List (List UInt8)
  | [] => [[]]
  | x :: r => bif x == c then [] :: partS c r else match partS c r with
    | [] => [[x]]
    | p :: m => (x :: p) :: m
def archS (l : List UInt8) : Option (Nat × Nat) :=
  match cutS 58 l with
  | none => none
  | some (a, b) => match unsS a, unsS b with
    | some (step, _), some (n, long) => bif step == 0 then none else some (step, bif long then n / step else n)
    | _, _ => none
def fitsS (a b : Nat × Nat) : Bool := Nat.blt a.1 b.1 && b.1 % a.1 == 0 && Nat.blt (a.1 * a.2) (b.1 * b.2) && Nat.ble (b.1 / a.1) a.2
def oneOk (a : Nat × Nat) : Bool := Nat.ble 1 a.1 && Nat.ble a.1 16777216 && Nat.ble 1 a.2 && Nat.ble a.2 16777216
/-- the archives behind one. -/
def rowOk (a : Nat × Nat) : List (Nat × Nat) → Bool
  | [] => true
  | b :: r => oneOk b && fitsS a b && rowOk b r
def sizeS (l : List (Nat × Nat)) : Nat := 16 + (l.map fun a => 12 + 12 * a.2).sum
def lastS (l : List (Nat × Nat)) : Nat × Nat := l.getLastD (0, 0)
def mayS (l : List (Nat × Nat)) : Bool := Nat.ble l.length 8 && (match l with | [] => false | a :: r => oneOk a && rowOk a r) && Nat.ble (sizeS l) 1048576 && Nat.ble ((lastS l).1 * (lastS l).2) maxTime
def archsS : List (List UInt8) → Option (List (Nat × Nat))
  | [] => some []
  | p :: m => match archS p with
    | none => none
    | some a => (archsS m).map fun l => a :: l
/-- the archives that a text says. -/
def retS (l : List UInt8) : Option (List (Nat × Nat)) :=
  match archsS (partS 44 l) with
  | none => none
  | some m => bif mayS m then some m else none

-- a look
theorem known_25 : retS [49, 48, 115, 58, 49, 109, 105, 110, 44, 49, 109, 105, 110, 58, 49, 104] = some [(10, 6), (60, 60)] := by kernel_rfl

theorem wholeN_le {l : List UInt8} {n : Nat} (h : wholeN l = some n) : n ≤ maxN := by
  unfold wholeN at h
  cases e : allDg (tailS l)
  · rw [e] at h; cases h
  · rw [e] at h
    simp only [allDg, Bool.and_eq_true] at e
    exact (numS_le _ _ _ h (fun h => by rw [h] at e; simp at e) e.1).1
theorem intvS_le {l : List UInt8} {n : Nat} (h : intvS l = some n) : n ≤ maxTime := by
  unfold intvS at h
  split at h
  · cases h
  · rename_i m hm
    generalize unitS (l.drop (dgN l)) = u at h
    cases hu : (u == 0)
    · rw [hu] at h
      simp only [cond_false] at h
      cases hb : Nat.blt (maxTime / u) m
      · rw [hb] at h
        simp only [cond_false, Option.some.injEq] at h
        have hle : m ≤ maxTime / u := by
          rcases Nat.lt_or_ge (maxTime / u) m with h1 | h1
          · rw [← Nat.blt_eq] at h1; rw [h1] at hb; cases hb
          · exact h1
        rw [← h]
        exact Nat.le_trans (Nat.mul_le_mul_right u hle) (Nat.div_mul_le_self _ _)
      · rw [hb] at h; cases h
    · rw [hu] at h; cases h
theorem unsS_le {l : List UInt8} {n : Nat} {b : Bool} (h : unsS l = some (n, b)) : n ≤ maxN := by
  unfold unsS at h
  cases e : signB l
  · rw [e] at h
    simp only [cond_false] at h
    split at h
    · rename_i m hm
      injection h with h
      injection h with h1 h2
      subst h1
      exact wholeN_le hm
    · cases hi : intvS l with
      | none => rw [hi] at h; cases h
      | some m =>
        rw [hi] at h
        injection h with h
        injection h with h1 h2
        subst h1
        exact Nat.le_trans (intvS_le hi) (by decide)
  · rw [e] at h; cases h
end Go.Proofs.YtfnpmdcbhjabmaaDoor
