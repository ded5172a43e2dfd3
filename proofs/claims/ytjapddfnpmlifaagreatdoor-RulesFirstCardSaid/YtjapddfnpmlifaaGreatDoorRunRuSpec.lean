/- Chapter 25 in plain Lean: whole numbers, intervals, retentions. No program in sight. · Plain notions for the proofs of this seat: 'Gr' (nothing that was there has turned), values of api.Val and their functions. No program in sight. · Digits, whole numbers: dec of the program, chapter 2 of the reference. · Whole numbers: dec.number, dec.Whole of the program; strip, Whole of the reference. -/
import Derived.WalkKit
import Derived.WalkSpells
import Derived.WalkLawsBesides
import Derived.Test.YtjapddfnpmlifaaGreatDoorRuShelf
import Derived.Lib.Hide
import Derived.Lib.IndexBytes
namespace Go.Proofs.YtjapddfnpmlifaaGreatDoor
set_option linter.unusedVariables false
set_option linter.unusedSimpArgs false
open Go.RowKit

def isDg (c : UInt8) : Bool := Nat.ble 48 c.toNat && Nat.ble c.toNat 57
theorem isDg_iff (c : UInt8) : isDg c = true ↔ 48 ≤ c.toNat ∧ c.toNat ≤ 57 := by simp [isDg, Nat.ble_eq]
theorem isDg_not (c : UInt8) : isDg c = false ↔ c.toNat < 48 ∨ 57 < c.toNat := by
 rw [Bool.eq_false_iff, ne_eq, isDg_iff]; omega
/-- one or more digits. -/
def allDg (l : List UInt8) : Bool := l.all isDg && !l.isEmpty
def maxN : Nat := 4611686018427387904
/-- digits as a number, none above the greatest. -/
def numS : List UInt8 → Nat → Option Nat
 | [], n => some n
 | c :: r, n => bif Nat.blt ((maxN - (c.toNat - 48)) / 10) n then none else numS r (n * 10 + (c.toNat - 48))
/-- a number without its noughts ahead, but one. -/
def stripS : List UInt8 → List UInt8
 | [] => []
 | [c] => [c]
 | c :: d :: r => bif c == 48 then stripS (d :: r) else c :: d :: r
def minusS (l : List UInt8) : Bool := match l with | [] => false | c :: _ => c == 45
def tailS (l : List UInt8) : List UInt8 := bif minusS l then l.drop 1 else l
def wholeN (l : List UInt8) : Option Nat := bif allDg (tailS l) then numS (tailS l) 0 else none
def wholeS (l : List UInt8) : Option Int := (wholeN l).map fun n : Nat => bif minusS l then -(n : Int) else (n : Int)
theorem numS_le (l : List UInt8) : ∀ n m, numS l n = some m → (l = [] → n ≤ maxN) → l.all isDg = true → m ≤ maxN ∧ n * 10 ^ l.length ≤ m := by
 induction l with
 | nil => intro n m h h0 _; simp only [numS, Option.some.injEq] at h; subst h; exact ⟨h0 rfl, by simp⟩
 | cons c r ih =>
  intro n m h _ hd
  unfold numS at h
  simp only [List.all_cons, Bool.and_eq_true, isDg_iff] at hd
  cases hb : Nat.blt ((maxN - (c.toNat - 48)) / 10) n
  ·
   rw [hb] at h
   simp only [cond_false] at h
   have hle : n ≤ (maxN - (c.toNat - 48)) / 10 := by
    rcases Nat.lt_or_ge ((maxN - (c.toNat - 48)) / 10) n with h1 | h1
    ·
     rw [← Nat.blt_eq] at h1; rw [h1] at hb; cases hb
    ·
     exact h1
   obtain ⟨h2, h3⟩ := ih _ _ h (fun _ => by unfold maxN at *; omega) hd.2
   refine ⟨h2, Nat.le_trans ?_ h3⟩
   rw [List.length_cons, Nat.pow_succ, Nat.mul_comm (10 ^ r.length) 10, ← Nat.mul_assoc]
   exact Nat.mul_le_mul_right _ (Nat.le_add_right _ _)
  ·
   rw [hb] at h; cases h
theorem strip_all : ∀ l : List UInt8, l.all isDg = true → (stripS l).all isDg = true
 | [], _ => rfl
 | [c], h => h
 | c :: d :: r, h => by
  unfold stripS
  cases (c == 48)
  ·
   exact h
  ·
   simp only [List.all_cons, Bool.and_eq_true] at h
   exact strip_all (d :: r) (by simp only [List.all_cons, Bool.and_eq_true]; exact h.2)
theorem strip_num : ∀ l : List UInt8, numS (stripS l) 0 = numS l 0
 | [] => rfl
 | [c] => rfl
 | c :: d :: r => by
  unfold stripS
  cases hc : (c == 48)
  ·
   rfl
  ·
   simp only [cond_true]
   rw [strip_num (d :: r)]
   have : c = 48 := by simpa using hc
   subst this
   conv => rhs; unfold numS
   rfl
theorem strip_head : ∀ l : List UInt8, ∀ c d r, stripS l = c :: d :: r → c ≠ 48
 | [], _, _, _, h => by cases h
 | [_], _, _, _, h => by cases h
 | a :: b :: t, c, d, r, h => by
  unfold stripS at h
  cases hc : (a == 48)
  ·
   rw [hc] at h
   simp only [cond_false] at h
   injection h with h1 h2
   subst h1
   simpa using hc
  ·
   rw [hc] at h
   exact strip_head (b :: t) c d r h
/-- more than nineteen digits are too many. -/
theorem strip_long (l : List UInt8) (hd : l.all isDg = true) (h : 19 < (stripS l).length) : numS l 0 = none := by
 rw [← strip_num]
 have hd2 := strip_all l hd
 have hh := strip_head l
 generalize stripS l = t at *
 match t, h with
 | c :: d :: r, h =>
  have hc := hh c d r rfl
  simp only [List.all_cons, Bool.and_eq_true, isDg_iff] at hd2
  have hc1 : 49 ≤ c.toNat := by
   have : c.toNat ≠ 48 := fun e => hc (by rw [← UInt8.toNat_inj]; exact e)
   omega
  unfold numS
  rw [show Nat.blt ((maxN - (c.toNat - 48)) / 10) 0 = false from rfl]
  simp only [cond_false]
  cases e : numS (d :: r) (0 * 10 + (c.toNat - 48)) with
  | none => rfl
  | some m =>
   obtain ⟨h2, h3⟩ := numS_le _ _ _ e (fun h => by cases h) (by simp only [List.all_cons, Bool.and_eq_true, isDg_iff]; exact hd2.2)
   exfalso
   have h4 : 1 * 10 ^ 19 ≤ (0 * 10 + (c.toNat - 48)) * 10 ^ (d :: r).length := by
    refine Nat.mul_le_mul (by omega) (Nat.pow_le_pow_right (by decide) ?_)
    simp at h ⊢; omega
   have h5 : maxN < 1 * 10 ^ 19 := by decide
   omega

/-- how many digits a text begins with. -/
def dgN : List UInt8 → Nat
 | [] => 0
 | c :: r => bif isDg c then dgN r + 1 else 0
theorem dgN_le : ∀ l, dgN l ≤ l.length
 | [] => Nat.le_refl _
 | c :: r => by
  unfold dgN
  cases isDg c
  ·
   simp
  ·
   simp only [cond_true, List.length_cons]; have := dgN_le r; omega
theorem dgN_take : ∀ l : List UInt8, (l.take (dgN l)).all isDg = true
 | [] => rfl
 | c :: r => by
  unfold dgN
  cases h : isDg c
  ·
   rfl
  ·
   simp only [cond_true, List.take_succ_cons, List.all_cons, Bool.and_eq_true]
   exact ⟨h, dgN_take r⟩
/-- the names of units. -/
def names : List (List (List UInt8) × Nat) := [
 ([[115], [115, 101, 99], [115, 101, 99, 115], [115, 101, 99, 111, 110, 100], [115, 101, 99, 111, 110, 100, 115]], 1),
 ([[109, 105, 110], [109, 105, 110, 115], [109, 105, 110, 117, 116, 101], [109, 105, 110, 117, 116, 101, 115]], 60),
 ([[104], [104, 111, 117, 114], [104, 111, 117, 114, 115]], 3600),
 ([[100], [100, 97, 121], [100, 97, 121, 115]], 86400),
 ([[119], [119, 101, 101, 107], [119, 101, 101, 107, 115]], 604800),
 ([[109, 111, 110], [109, 111, 110, 116, 104], [109, 111, 110, 116, 104, 115]], 2592000),
 ([[121], [121, 101, 97, 114], [121, 101, 97, 114, 115]], 31536000)]
def inLU (l : List UInt8) (m : List (List UInt8)) : Bool := m.any fun x => x == l
def unitF (l : List UInt8) : List (List (List UInt8) × Nat) → Nat
 | [] => 0
 | (m, u) :: r => bif inLU l m then u else unitF l r
def unitS (l : List UInt8) : Nat := unitF l names
def maxTime : Nat := 4294967295
/-- an interval without a sign. -/
def intvS (l : List UInt8) : Option Nat :=
 match wholeN (l.take (dgN l)) with
 | none => none
 | some n => bif unitS (l.drop (dgN l)) == 0 then none else bif Nat.blt (maxTime / unitS (l.drop (dgN l))) n then none else some (n * unitS (l.drop (dgN l)))
def signB (l : List UInt8) : Bool := match l with | [] => true | c :: _ => c == 45 || c == 43
/-- a number of seconds, or of points, without a sign. -/
def unsS (l : List UInt8) : Option (Nat × Bool) :=
 bif signB l then none else
 match wholeN l with
 | some n => some (n, false)
 | none => (intvS l).map fun n => (n, true)
/-- what stands ahead of the first such byte, and behind it. -/
def cutS (c : UInt8) : List UInt8 → Option (List UInt8 × List UInt8)
 | [] => none
 | x :: r => bif x == c then some ([], r) else (cutS c r).map fun p => (x :: p.1, p.2)
/-- what stands between such bytes. -/
def partS (c : UInt8) : List UInt8 → List (List UInt8)
 | [] => [[]]
 | x :: r => bif x == c then [] :: partS c r else match partS c r with
  | [] => [[x]]
  | p :: m => (x :: p) :: m
def archS (l : List UInt8) : Option (Nat × Nat) :=
 match cutS 58 l with
 | none => none
 | some (a, b) => match unsS a, unsS b with
  | some (step, _), some (n, long) => bif step == 0 then none else some (step, bif long then n / step else n)
  | _, _ => none
def fitsS (a b : Nat × Nat) : Bool := Nat.blt a.1 b.1 && b.1 % a.1 == 0 && Nat.blt (a.1 * a.2) (b.1 * b.2) && Nat.ble (b.1 / a.1) a.2
def oneOk (a : Nat × Nat) : Bool := Nat.ble 1 a.1 && Nat.ble a.1 16777216 && Nat.ble 1 a.2 && Nat.ble a.2 16777216
/-- the archives behind one. -/
def rowOk (a : Nat × Nat) : List (Nat × Nat) → Bool
 | [] => true
 | b :: r => oneOk b && fitsS a b && rowOk b r
def sizeS (l : List (Nat × Nat)) : Nat := 16 + (l.map fun a => 12 + 12 * a.2).sum
def lastS (l : List (Nat × Nat)) : Nat × Nat := l.getLastD (0, 0)
def mayS (l : List (Nat × Nat)) : Bool := Nat.ble l.length 8 && (match l with | [] => false | a :: r => oneOk a && rowOk a r) && Nat.ble (sizeS l) 1048576 && Nat.ble ((lastS l).1 * (lastS l).2) maxTime
def archsS : List (List UInt8) → Option (List (Nat × Nat))
 | [] => some []
 | p :: m => match archS p with
  | none => none
  | some a => (archsS m).map fun l => a :: l
/-- the archives that a text says. -/
def retS (l : List UInt8) : Option (List (Nat × Nat)) :=
 match archsS (partS 44 l) with
 | none => none
 | some m => bif mayS m then some m else none

-- a look
theorem known_25 : retS [49, 48, 115, 58, 49, 109, 105, 110, 44, 49, 109, 105, 110, 58, 49, 104] = some [(10, 6), (60, 60)] := by kernel_rfl

theorem wholeN_le {l : List UInt8} {n : Nat} (h : wholeN l = some n) : n ≤ maxN := by
 unfold wholeN at h
 cases e : allDg (tailS l)
 ·
  rw [e] at h; cases h
 ·
  rw [e] at h
  simp only [allDg, Bool.and_eq_true] at e
  exact (numS_le _ _ _ h (fun h => by rw [h] at e; simp at e) e.1).1
theorem intvS_le {l : List UInt8} {n : Nat} (h : intvS l = some n) : n ≤ maxTime := by
 unfold intvS at h
 split at h
 ·
  cases h
 ·
  rename_i m hm
  generalize unitS (l.drop (dgN l)) = u at h
  cases hu : (u == 0)
  ·
   rw [hu] at h
   simp only [cond_false] at h
   cases hb : Nat.blt (maxTime / u) m
   ·
    rw [hb] at h
    simp only [cond_false, Option.some.injEq] at h
    have hle : m ≤ maxTime / u := by
     rcases Nat.lt_or_ge (maxTime / u) m with h1 | h1
     ·
      rw [← Nat.blt_eq] at h1; rw [h1] at hb; cases hb
     ·
      exact h1
    rw [← h]
    exact Nat.le_trans (Nat.mul_le_mul_right u hle) (Nat.div_mul_le_self _ _)
   ·
    rw [hb] at h; cases h
  ·
   rw [hu] at h; cases h
theorem unsS_le {l : List UInt8} {n : Nat} {b : Bool} (h : unsS l = some (n, b)) : n ≤ maxN := by
 unfold unsS at h
 cases e : signB l
 ·
  rw [e] at h
  simp only [cond_false] at h
  split at h
  ·
   rename_i m hm
   injection h with h
   injection h with h1 h2
   subst h1
   exact wholeN_le hm
  ·
   cases hi : intvS l with
   | none => rw [hi] at h; cases h
   | some m =>
    rw [hi] at h
    injection h with h
    injection h with h1 h2
    subst h1
    exact Nat.le_trans (intvS_le hi) (by decide)
 ·
  rw [e] at h; cases h
end Go.Proofs.YtjapddfnpmlifaaGreatDoor
namespace Go.Proofs.YtjapddfnpmlifaaGreatDoor
open Go.RowKit

/-- everything that was there is as it was. -/
def Gr (w w' : World) : Prop := Below w.heap.size w w'
theorem Gr.refl (w : World) : Gr w w := Below.refl _ _
theorem Gr.size {a w : World} (h : Gr a w) : a.heap.size ≤ w.heap.size := Below.size h
theorem Gr.alloc {a w : World} (h : Gr a w) (o : Obj) : Gr a (w.alloc o) := Below.alloc h h.size o
theorem Gr.drew {a w : World} (h : Gr a w) : Gr a w.drew := Below.drew h
theorem Gr.setCell {a w : World} (h : Gr a w) {p : Addr} (hp : a.heap.size ≤ p.block) (u : Value) : Gr a (w.setCell p u) := Below.setCell h hp u
theorem Gr.trans {a b c : World} (h : Gr a b) (k : Gr b c) : Gr a c := Below.trans h (Below.mono k h.size)
theorem Gr.cells {W w1 : World} (hb : Gr W w1) : (∀ b o, b < W.heap.size → w1.cell? ⟨b, o, none⟩ = W.cell? ⟨b, o, none⟩) ∧ (∀ b o, b < W.heap.size → w1.frozen? ⟨b, o, none⟩ = W.frozen? ⟨b, o, none⟩) :=
 ⟨fun b o h => Below.cell hb (p := ⟨b, o, none⟩) h, fun b o h => Below.frozen hb (p := ⟨b, o, none⟩) h⟩

/-- An api.Val. -/
structure Vl where
 ok : Bool
 n : Int

def isB (a : Vl) : Bool := bif a.ok then (decide (-4611686018427387904 ≤ a.n) && decide (a.n ≤ 4611686018427387904)) else a.n == 0
def knB (a : Vl) : Bool := a.ok && isB a
def ofV (n : Int) : Vl := bif isB ⟨true, n⟩ then ⟨true, n⟩ else ⟨false, 0⟩
def intV (n : Int) : Vl := bif decide (-4611686018427 ≤ n) && decide (n ≤ 4611686018427) then ofV (n * 1000000) else ⟨false, 0⟩
def sumV (a b : Vl) : Vl := bif knB a && knB b then ofV (a.n + b.n) else ⟨false, 0⟩
def addV (l : List Vl) : Vl := l.foldl sumV (ofV 0)
def subV (a b : Vl) : Vl := bif knB a && knB b then ofV (a.n - b.n) else ⟨false, 0⟩
def absV (a : Vl) : Vl := bif knB a then ofV (max a.n (-a.n)) else ⟨false, 0⟩
def lessB (a b : Vl) : Bool := knB a && knB b && decide (a.n < b.n)

theorem isB_iff (ok : Bool) (n : Int) : isB ⟨ok, n⟩ = true ↔ (if ok = true then -4611686018427387904 ≤ n ∧ n ≤ 4611686018427387904 else n = 0) := by
 cases ok <;> simp [isB]
theorem knB_iff (a : Vl) : knB a = true ↔ a.ok = true ∧ -4611686018427387904 ≤ a.n ∧ a.n ≤ 4611686018427387904 := by
 obtain ⟨ok, n⟩ := a
 cases ok <;> simp [knB, isB]
theorem knB_lo {a : Vl} (h : knB a = true) : -4611686018427387904 ≤ a.n := ((knB_iff a).1 h).2.1
theorem knB_hi {a : Vl} (h : knB a = true) : a.n ≤ 4611686018427387904 := ((knB_iff a).1 h).2.2
theorem knB_ok {a : Vl} (h : knB a = true) : a.ok = true := ((knB_iff a).1 h).1
theorem ofV_in {n : Int} (h : -4611686018427387904 ≤ n) (h' : n ≤ 4611686018427387904) : ofV n = ⟨true, n⟩ := by simp [ofV, isB, h, h']
theorem ofV_hi {n : Int} (h : 4611686018427387904 < n) : ofV n = ⟨false, 0⟩ := by
 have : ¬ n ≤ 4611686018427387904 := by omega
 simp [ofV, isB, this]
theorem ofV_lo {n : Int} (h : n < -4611686018427387904) : ofV n = ⟨false, 0⟩ := by
 have : ¬ -4611686018427387904 ≤ n := by omega
 simp [ofV, isB, this]
theorem ofV_isB (n : Int) : isB (ofV n) = true := by
 unfold ofV
 cases h : isB ⟨true, n⟩
 ·
  rfl
 ·
  exact h
theorem ofV_ok_kn {n : Int} : knB (ofV n) = (ofV n).ok := by simp [knB, ofV_isB]

theorem Pu : (∀ (t : Array Value) (f : List Deferred) (d : Tmp) (v : Value), Act.put ⟨t, f⟩ (some d) v = ⟨t.setIfInBounds d v, f⟩) ∧ (∀ (a : Act) (v : Value), a.put none v = a) ∧ (∀ (l : List Value) (i : Nat) (x : Value), l.toArray.setIfInBounds i x = (l.set i x).toArray)
 ∧ (∀ (x y : Value) (l : List Value), (x :: l).set 0 y = y :: l) ∧ (∀ (x y : Value) (l : List Value) (n : Nat), (x :: l).set (n + 1) y = x :: l.set n y) :=
 ⟨fun _ _ _ _ => rfl, fun _ _ => rfl, fun l i x => List.setIfInBounds_toArray l i x, fun _ _ _ => rfl, fun _ _ _ _ => rfl⟩
end Go.Proofs.YtjapddfnpmlifaaGreatDoor
namespace Go.Proofs.YtjapddfnpmlifaaGreatDoor
set_option linter.unusedVariables false
set_option linter.unusedSimpArgs false
open Go.RowKit

theorem toList_data_ru (s : ByteArray) : s.toList = s.data.toList := by first | exact Lib.toList_data s | exact ByteArray.toList_eq
theorem ne_nil {s : ByteArray} (h : ¬ s.size = 0) : s.data.toList ≠ [] := fun e => h (by show s.data.size = 0; rw [← Array.length_toList, e]; rfl)
theorem ret_b {a b : Bool} (h : a = b) : Ending.returned (.bool a) = .returned (.bool b) := by rw [h]
theorem all_take (s : ByteArray) (k : Nat) (h : k < s.size) : (s.data.toList.take (k + 1)).all isDg = ((s.data.toList.take k).all isDg && isDg s[k]) := by
 rw [List.take_succ_eq_append_getElem (by simpa using h), List.all_append]
 simp only [List.all_cons, List.all_nil, Bool.and_true]
 rfl
theorem all_no {l : List UInt8} {k : Nat} {b : Bool} (h : (l.take (k + 1)).all isDg = (b && false)) : allDg l = false := by
 have h1 : (l.take (k + 1)).all isDg = false := by rw [h]; cases b <;> rfl
 unfold allDg
 rw [Bool.and_eq_false_iff]
 left
 cases e : l.all isDg with
 | false => rfl
 | true =>
  have := List.all_eq_true.1 e
  rw [List.all_eq_true.2 (fun x hx => this x (List.mem_of_mem_take hx))] at h1
  cases h1

set_option maxRecDepth 100000 in
set_option maxHeartbeats 3200000 in
theorem dec_digit (c : UInt8) (w : World) : Calls Tryz.prog 112 #[.int .u8 c.toNat] w fun e w' => e = .returned (.bool (isDg c)) ∧ w = w' := by
 cases hc : isDg c
 ·
  rcases (isDg_not c).1 hc with h | h
  ·
   have h1 : ¬ (48 : Int) ≤ (c.toNat : Int) := by omega
   clear hc h
   go_enter Tryz.func112, Tryz.ntmps112
   go_wp2
   go_ret
   exact ⟨rfl, rfl⟩
  ·
   have h1 : (48 : Int) ≤ (c.toNat : Int) := by omega
   have h2 : ¬ (c.toNat : Int) ≤ 57 := by omega
   clear hc h
   go_enter Tryz.func112, Tryz.ntmps112
   go_wp2
   go_ret
   exact ⟨rfl, rfl⟩
 ·
  obtain ⟨a, b⟩ := (isDg_iff c).1 hc
  have h1 : (48 : Int) ≤ (c.toNat : Int) := by omega
  have h2 : (c.toNat : Int) ≤ 57 := by omega
  clear hc a b
  go_enter Tryz.func112, Tryz.ntmps112
  go_wp2
  go_ret
  exact ⟨rfl, rfl⟩
set_option maxRecDepth 100000 in
set_option maxHeartbeats 3200000 in
theorem span_digit (c : UInt8) (w : World) : Calls Tryz.prog 142 #[.int .u8 c.toNat] w fun e w' => e = .returned (.bool (isDg c)) ∧ w = w' := by
 cases hc : isDg c
 ·
  rcases (isDg_not c).1 hc with h | h
  ·
   have h1 : ¬ (48 : Int) ≤ (c.toNat : Int) := by omega
   clear hc h
   go_enter Tryz.func142, Tryz.ntmps142
   go_wp2
   go_ret
   exact ⟨rfl, rfl⟩
  ·
   have h1 : (48 : Int) ≤ (c.toNat : Int) := by omega
   have h2 : ¬ (c.toNat : Int) ≤ 57 := by omega
   clear hc h
   go_enter Tryz.func142, Tryz.ntmps142
   go_wp2
   go_ret
   exact ⟨rfl, rfl⟩
 ·
  obtain ⟨a, b⟩ := (isDg_iff c).1 hc
  have h1 : (48 : Int) ≤ (c.toNat : Int) := by omega
  have h2 : (c.toNat : Int) ≤ 57 := by omega
  clear hc a b
  go_enter Tryz.func142, Tryz.ntmps142
  go_wp2
  go_ret
  exact ⟨rfl, rfl⟩
set_option maxRecDepth 100000 in
set_option maxHeartbeats 3200000 in
theorem ref2_digit (c : UInt8) (w : World) : Calls Tryz.prog 101 #[.int .u8 c.toNat] w fun e w' => e = .returned (.bool (isDg c)) ∧ w = w' := by
 cases hc : isDg c
 ·
  rcases (isDg_not c).1 hc with h | h
  ·
   have h1 : ¬ (48 : Int) ≤ (c.toNat : Int) := by omega
   clear hc h
   go_enter Tryz.func101, Tryz.ntmps101
   go_wp2
   go_ret
   exact ⟨rfl, rfl⟩
  ·
   have h1 : (48 : Int) ≤ (c.toNat : Int) := by omega
   have h2 : ¬ (c.toNat : Int) ≤ 57 := by omega
   clear hc h
   go_enter Tryz.func101, Tryz.ntmps101
   go_wp2
   go_ret
   exact ⟨rfl, rfl⟩
 ·
  obtain ⟨a, b⟩ := (isDg_iff c).1 hc
  have h1 : (48 : Int) ≤ (c.toNat : Int) := by omega
  have h2 : (c.toNat : Int) ≤ 57 := by omega
  clear hc a b
  go_enter Tryz.func101, Tryz.ntmps101
  go_wp2
  go_ret
  exact ⟨rfl, rfl⟩
set_option maxRecDepth 100000 in
set_option maxHeartbeats 3200000 in
theorem ref16_digit (c : UInt8) (w : World) : Calls Tryz.prog 127 #[.int .u8 c.toNat] w fun e w' => e = .returned (.bool (isDg c)) ∧ w = w' := by
 cases hc : isDg c
 ·
  rcases (isDg_not c).1 hc with h | h
  ·
   have h1 : ¬ (48 : Int) ≤ (c.toNat : Int) := by omega
   clear hc h
   go_enter Tryz.func127, Tryz.ntmps127
   go_wp2
   go_ret
   exact ⟨rfl, rfl⟩
  ·
   have h1 : (48 : Int) ≤ (c.toNat : Int) := by omega
   have h2 : ¬ (c.toNat : Int) ≤ 57 := by omega
   clear hc h
   go_enter Tryz.func127, Tryz.ntmps127
   go_wp2
   go_ret
   exact ⟨rfl, rfl⟩
 ·
  obtain ⟨a, b⟩ := (isDg_iff c).1 hc
  have h1 : (48 : Int) ≤ (c.toNat : Int) := by omega
  have h2 : (c.toNat : Int) ≤ 57 := by omega
  clear hc a b
  go_enter Tryz.func127, Tryz.ntmps127
  go_wp2
  go_ret
  exact ⟨rfl, rfl⟩

set_option maxRecDepth 100000 in
set_option maxHeartbeats 3200000 in
theorem dec_all (s : ByteArray) (hs : (s.size : Int) ≤ 4096) (w : World) : Calls Tryz.prog 84 #[.string s] w fun e w' => e = .returned (.bool (allDg s.data.toList)) ∧ w = w' := by
 go_enter Tryz.func84, Tryz.ntmps84
 go_wp2
 go_loop [6] (fun i => ∃ k : Nat, k ≤ s.size ∧ i = .int .i64 k ∧ (s.data.toList.take k).all isDg = true) (fun i => s.size - (intOf i).toNat)
 case atStart => exact ⟨0, Nat.zero_le _, rfl, rfl⟩
 case round =>
  obtain ⟨k, hk, rfl, ha⟩ := hrel
  have Ha := Lib.hid ha
  clear ha
  by_cases hlt : k < s.size
  ·
   have hlt' : (k : Int) < (s.size : Int) := by omega
   have ht := all_take s k hlt
   have HD := dec_digit s[k]
   cases hd : isDg s[k]
   ·
    rw [hd] at HD ht
    have hn : allDg s.data.toList = false := all_no ht
    have Hn := Lib.hid hn
    clear ht hd hn
    go_wp2_with (go_at_call 112; refine (HD _).mono ?_; rintro e w' ⟨rfl, rfl⟩)
    go_ret
    exact ⟨ret_b Hn.out.symm, rfl⟩
   ·
    rw [hd] at HD ht
    have Ht := Lib.hid ht
    clear ht hd
    go_wp2_with (go_at_call 112; refine (HD _).mono ?_; rintro e w' ⟨rfl, rfl⟩)
    go_round
    case rel => exact ⟨k + 1, by omega, by go_num, by rw [Ht.out, Ha.out]; rfl⟩
    case measure => simp [intOf]; omega
  ·
   have hks : k = s.size := by omega
   have hge : ¬ (k : Int) < (s.size : Int) := by omega
   have hall : s.data.toList.all isDg = true := by
    have := Ha.out
    rwa [List.take_of_length_le (by simp; omega)] at this
   have Hall := Lib.hid hall
   clear hall hks
   by_cases h0 : s.size = 0
   ·
    obtain rfl : s = ⟨#[]⟩ := by
     apply ByteArray.ext; apply Array.eq_empty_of_size_eq_zero; exact h0
    clear h0
    go_wp2
    go_ret
    exact ⟨rfl, rfl⟩
   ·
    have e0 : allDg s.data.toList = true := by
     unfold allDg
     rw [Hall.out, Bool.true_and, Bool.not_eq_true', List.isEmpty_eq_false_iff]
     exact ne_nil h0
    have E0 := Lib.hid e0
    have n1 : s.toList.isEmpty = false := by rw [toList_data_ru]; rw [List.isEmpty_eq_false_iff]; exact ne_nil h0
    have n2 : s.data.toList.isEmpty = false := by rw [List.isEmpty_eq_false_iff]; exact ne_nil h0
    have n3 : (s.toList == []) = false := by rw [toList_data_ru, beq_eq_false_iff_ne]; exact ne_nil h0
    have n4 : (0 : Int) < (s.size : Int) := by omega
    clear h0 e0
    go_wp2
    go_ret
    first | exact ⟨ret_b E0.out.symm, rfl⟩ | exact ⟨ret_b (by rw [E0.out]; exact decide_eq_true (by omega)), rfl⟩

end Go.Proofs.YtjapddfnpmlifaaGreatDoor
namespace Go.Proofs.YtjapddfnpmlifaaGreatDoor
set_option linter.unusedVariables false
set_option linter.unusedSimpArgs false
open Go.RowKit

theorem ret2 {a b : Int} {c d : Bool} (h : a = b) (k : c = d) : Ending.returned (.tuple #[.int .i64 a, .bool c]) = .returned (.tuple #[.int .i64 b, .bool d]) := by rw [h, k]
theorem numS_cons (c : UInt8) (r : List UInt8) (n : Nat) (h1 : 48 ≤ c.toNat) (h2 : c.toNat ≤ 57) (hn : n ≤ maxN) : ((4611686018427387904 - ((c.toNat : Int) - 48)) / 10 < (n : Int) → numS (c :: r) n = none) ∧ (¬ (4611686018427387904 - ((c.toNat : Int) - 48)) / 10 < (n : Int) → numS (c :: r) n = numS r (n * 10 + (c.toNat - 48)) ∧ n * 10 + (c.toNat - 48) ≤ maxN) := by
 have e : (4611686018427387904 - ((c.toNat : Int) - 48)) / 10 = (((maxN - (c.toNat - 48)) / 10 : Nat) : Int) := by
  show _ = (((4611686018427387904 - (c.toNat - 48)) / 10 : Nat) : Int)
  omega
 rw [e]
 constructor
 ·
  intro h
  unfold numS
  rw [show Nat.blt ((maxN - (c.toNat - 48)) / 10) n = true by rw [Nat.blt_eq]; omega]
  rfl
 ·
  intro h
  constructor
  ·
   conv => lhs; unfold numS
   rw [show Nat.blt ((maxN - (c.toNat - 48)) / 10) n = false by rw [Bool.eq_false_iff, ne_eq, Nat.blt_eq]; omega]
   rfl
  ·
   have h9 : n ≤ (maxN - (c.toNat - 48)) / 10 := by omega
   clear e h
   show _ ≤ 4611686018427387904
   have h9 : n ≤ (4611686018427387904 - (c.toNat - 48)) / 10 := h9
   omega
/-- a number, or none. -/
def RetN (x : Option Nat) (w : World) (e : Ending) (w' : World) : Prop := e = .returned (.tuple #[.int .i64 (x.getD 0 : Nat), .bool x.isSome]) ∧ w = w'
theorem RetN.some' {x : Option Nat} {n : Nat} {w : World} (h : x = some n) : RetN x w (.returned (.tuple #[.int .i64 (n : Int), .bool true])) w := by subst h; exact ⟨rfl, rfl⟩
theorem RetN.none' {x : Option Nat} {w : World} (h : x = none) : RetN x w (.returned (.tuple #[.int .i64 0, .bool false])) w := by subst h; exact ⟨rfl, rfl⟩
set_option maxRecDepth 100000 in
set_option maxHeartbeats 3200000 in
theorem dec_number (s : ByteArray) (hs : (s.size : Int) ≤ 4096) (hd : s.data.toList.all isDg = true) (w : World) : Calls Tryz.prog 85 #[.string s] w (RetN (numS s.data.toList 0) w) := by
 have Hd := Lib.hid hd
 clear hd
 go_enter Tryz.func85, Tryz.ntmps85
 go_wp2
 go_loop [4, 9] (fun v i => ∃ k n : Nat, k ≤ s.size ∧ i = .int .i64 k ∧ v = .int .i64 n ∧ n ≤ maxN ∧ numS (s.data.toList.drop k) n = numS s.data.toList 0) (fun _ i => s.size - (intOf i).toNat)
 case atStart => exact ⟨0, 0, Nat.zero_le _, rfl, rfl, Nat.zero_le _, rfl⟩
 case round =>
  obtain ⟨k, n, hk, rfl, rfl, hn, he⟩ := hrel
  have hn1 : (n : Int) ≤ 4611686018427387904 := by have : n ≤ 4611686018427387904 := hn; omega
  have He := Lib.hid he
  have Hn := Lib.hid hn
  clear he hn
  by_cases hlt : k < s.size
  ·
   have hlt' : (k : Int) < (s.size : Int) := by omega
   have hd := Hd.out
   have hsl : s.data.toList.length = s.size := by simp
   obtain ⟨c, hc⟩ : ∃ c, c = s[k] := ⟨_, rfl⟩
   have hdr : s.data.toList.drop k = c :: s.data.toList.drop (k + 1) := by rw [hc]; exact List.drop_eq_getElem_cons (by simpa using hlt)
   have hcd : isDg c = true := List.all_eq_true.1 hd c (List.mem_of_mem_drop (i := k) (by rw [hdr]; exact List.mem_cons_self))
   obtain ⟨c1, c2⟩ := (isDg_iff c).1 hcd
   obtain ⟨n1, n2⟩ := numS_cons c (s.data.toList.drop (k + 1)) n c1 c2 Hn.out
   have hc1 : (48 : Int) ≤ (s[k].toNat : Int) := by rw [← hc]; omega
   have hc2 : (s[k].toNat : Int) ≤ 57 := by rw [← hc]; omega
   rw [hc] at n1 n2 hdr
   have e0 := He.out
   rw [hdr] at e0
   by_cases hb : (4611686018427387904 - ((s[k].toNat : Int) - 48)) / 10 < (n : Int)
   ·
    have hx := Lib.hid (e0.symm.trans (n1 hb))
    clear e0 n1 n2 hdr hcd hd hc c1 c2 hsl
    go_wp2
    go_ret2
    exact RetN.none' hx.out
   ·
    obtain ⟨n3, n4⟩ := n2 hb
    have hx := Lib.hid (And.intro (n3.symm.trans e0) n4)
    have hb2 : (n : Int) * 10 + ((s[k].toNat : Int) - 48) ≤ 4611686018427387904 := by rw [hc] at c1; unfold maxN at n4; omega
    clear e0 n1 n2 n3 n4 hdr hcd hd hc c1 c2 hsl
    go_wp2
    go_round
    case rel => exact ⟨k + 1, n * 10 + (s[k].toNat - 48), by omega, by go_num, by go_num, hx.out.2, hx.out.1⟩
    case measure => simp [intOf]; omega
  ·
   have hks : k = s.size := by omega
   have hge : ¬ (k : Int) < (s.size : Int) := by omega
   have e0 := He.out
   rw [List.drop_eq_nil_of_le (by simp; omega)] at e0
   have hx := Lib.hid e0
   clear e0 hks
   go_wp2
   go_ret2
   exact RetN.some' hx.out.symm

theorem trim_minus (l : List UInt8) : Lib.trimPrefix l [45] = tailS l := by
 match l with
 | [] => rfl
 | c :: r =>
  unfold Lib.trimPrefix tailS minusS
  show (if ((45 : UInt8) == c && true) = true then _ else _) = bif c == 45 then r else c :: r
  by_cases h : c = 45
  ·
   subst h; rfl
  ·
   have h1 : (c == 45) = false := beq_eq_false_iff_ne.2 h
   have h2 : ((45 : UInt8) == c) = false := beq_eq_false_iff_ne.2 (Ne.symm h)
   rw [h1, h2]; rfl
/-- what a whole number's reader hands back. -/
def RetV (x : Option Int) (w : World) (e : Ending) (w' : World) : Prop := e = .returned (.tuple #[.int .i64 (x.getD 0), .bool x.isSome]) ∧ w = w'
theorem RetV.some' {x : Option Int} {n : Int} {w : World} (h : x = some n) : RetV x w (.returned (.tuple #[.int .i64 n, .bool true])) w := by subst h; exact ⟨rfl, rfl⟩
theorem RetV.none' {x : Option Int} {w : World} (h : x = none) : RetV x w (.returned (.tuple #[.int .i64 0, .bool false])) w := by subst h; exact ⟨rfl, rfl⟩
theorem tail_len (l : List UInt8) : (tailS l).length = bif minusS l then l.length - 1 else l.length := by
 unfold tailS
 cases minusS l <;> simp
theorem minus_pos {l : List UInt8} (h : minusS l = true) : 0 < l.length := by
 cases l with
 | nil => cases h
 | cons c r => simp
set_option maxRecDepth 100000 in
set_option maxHeartbeats 3200000 in
theorem dec_Whole (s : ByteArray) (hs : (s.size : Int) ≤ 4096) (w : World) : Calls Tryz.prog 92 #[.string s] w (RetV (wholeS s.data.toList) w) := by
 obtain ⟨d, hd⟩ : ∃ d : ByteArray, d = ⟨(Lib.trimPrefix s.data.toList [45]).toArray⟩ := ⟨_, rfl⟩
 have hdl : d.data.toList = tailS s.data.toList := by rw [hd, trim_minus]
 have hsl : s.data.toList.length = s.size := by simp
 have hds : d.size = bif minusS s.data.toList then s.size - 1 else s.size := by
  have : d.size = d.data.toList.length := by simp
  rw [this, hdl, tail_len, hsl]
 have hdz : d.size ≤ s.size := by rw [hds]; cases minusS s.data.toList <;> simp
 have HTP := Lib.hid (Tryz.strings_TrimPrefix s ⟨#[45]⟩)
 have HD := Lib.hid hd
 have HA := Lib.hid (dec_all d (by omega))
 have HN := fun h w => dec_number d (by omega) h w
 have HW := Lib.hid (show wholeS s.data.toList = (bif allDg d.data.toList then numS d.data.toList 0 else none).map (fun n : Nat => bif minusS s.data.toList then -(n : Int) else (n : Int)) by rw [hdl]; rfl)
 have HW0 := Lib.hid (show wholeN s.data.toList = (bif allDg d.data.toList then numS d.data.toList 0 else none) by rw [hdl]; rfl)
 clear hd hdl hsl
 cases ha : allDg d.data.toList
 ·
  rw [ha] at HA HW
  have hx : Hid (wholeS s.data.toList = none) := Lib.hid HW.out
  clear ha HN HW hds
  go_enter Tryz.func92, Tryz.ntmps92
  go_wp2_with (first | (go_at_call 121; refine (HTP.out _).mono ?_; rintro e w' ⟨rfl, rfl⟩; rw [show (⟨(Lib.trimPrefix s.data.toList (⟨#[45]⟩ : ByteArray).data.toList).toArray⟩ : ByteArray) = d from HD.out.symm]) | (go_at_call 84; refine (HA.out _).mono ?_; rintro e w' ⟨rfl, rfl⟩))
  go_ret2
  exact RetV.none' hx.out
 ·
  have hall : d.data.toList.all isDg = true := by unfold allDg at ha; rw [Bool.and_eq_true] at ha; exact ha.1
  have HN2 := Lib.hid (HN hall)
  rw [ha] at HA HW HW0
  have hx := HW.out
  clear ha HN HW hall
  rw [cond_true] at hx
  cases hnum : numS d.data.toList 0 with
  | none =>
   rw [hnum] at HN2 hx
   have hy : Hid (wholeS s.data.toList = none) := Lib.hid hx
   clear hnum hx
   cases hm : minusS s.data.toList
   ·
    rw [hm] at hds
    have hl : ¬ (d.size : Int) < (s.size : Int) := by simp only [cond_false] at hds; omega
    clear hds hm
    go_enter Tryz.func92, Tryz.ntmps92
    go_wp2_with (first | (go_at_call 121; refine (HTP.out _).mono ?_; rintro e w' ⟨rfl, rfl⟩; rw [show (⟨(Lib.trimPrefix s.data.toList (⟨#[45]⟩ : ByteArray).data.toList).toArray⟩ : ByteArray) = d from HD.out.symm]) | (go_at_call 84; refine (HA.out _).mono ?_; rintro e w' ⟨rfl, rfl⟩) | (go_at_call 85; refine (HN2.out _).mono ?_; rintro e w' ⟨rfl, rfl⟩))
    go_ret2
    exact RetV.none' hy.out
   ·
    have h0 := minus_pos hm
    rw [hm] at hds
    have hl : (d.size : Int) < (s.size : Int) := by simp at h0; simp only [cond_true] at hds; omega
    clear hds hm h0
    go_enter Tryz.func92, Tryz.ntmps92
    go_wp2_with (first | (go_at_call 121; refine (HTP.out _).mono ?_; rintro e w' ⟨rfl, rfl⟩; rw [show (⟨(Lib.trimPrefix s.data.toList (⟨#[45]⟩ : ByteArray).data.toList).toArray⟩ : ByteArray) = d from HD.out.symm]) | (go_at_call 84; refine (HA.out _).mono ?_; rintro e w' ⟨rfl, rfl⟩) | (go_at_call 85; refine (HN2.out _).mono ?_; rintro e w' ⟨rfl, rfl⟩))
    go_ret2
    exact RetV.none' hy.out
  | some n =>
   rw [hnum] at HN2 hx
   have hnle : n ≤ maxN := wholeN_le (l := s.data.toList) (by rw [HW0.out, hnum]; rfl)
   have hn1 : (n : Int) ≤ 4611686018427387904 := by have : n ≤ 4611686018427387904 := hnle; omega
   cases hm : minusS s.data.toList
   ·
    rw [hm] at hds hx
    have hl : ¬ (d.size : Int) < (s.size : Int) := by simp only [cond_false] at hds; omega
    have hy : Hid (wholeS s.data.toList = some (n : Int)) := Lib.hid hx
    clear hds hm hx hnum hnle
    go_enter Tryz.func92, Tryz.ntmps92
    go_wp2_with (first | (go_at_call 121; refine (HTP.out _).mono ?_; rintro e w' ⟨rfl, rfl⟩; rw [show (⟨(Lib.trimPrefix s.data.toList (⟨#[45]⟩ : ByteArray).data.toList).toArray⟩ : ByteArray) = d from HD.out.symm]) | (go_at_call 84; refine (HA.out _).mono ?_; rintro e w' ⟨rfl, rfl⟩) | (go_at_call 85; refine (HN2.out _).mono ?_; rintro e w' ⟨rfl, rfl⟩))
    go_ret2
    exact RetV.some' hy.out
   ·
    have h0 := minus_pos hm
    rw [hm] at hds hx
    have hl : (d.size : Int) < (s.size : Int) := by simp at h0; simp only [cond_true] at hds; omega
    have hy : Hid (wholeS s.data.toList = some (-(n : Int))) := Lib.hid hx
    clear hds hm h0 hx hnum hnle
    go_enter Tryz.func92, Tryz.ntmps92
    go_wp2_with (first | (go_at_call 121; refine (HTP.out _).mono ?_; rintro e w' ⟨rfl, rfl⟩; rw [show (⟨(Lib.trimPrefix s.data.toList (⟨#[45]⟩ : ByteArray).data.toList).toArray⟩ : ByteArray) = d from HD.out.symm]) | (go_at_call 84; refine (HA.out _).mono ?_; rintro e w' ⟨rfl, rfl⟩) | (go_at_call 85; refine (HN2.out _).mono ?_; rintro e w' ⟨rfl, rfl⟩))
    go_ret2
    exact RetV.some' hy.out
set_option maxRecDepth 100000 in
set_option maxHeartbeats 3200000 in
theorem ref2_all (s : ByteArray) (hs : (s.size : Int) ≤ 4096) (w : World) : Calls Tryz.prog 67 #[.string s] w fun e w' => e = .returned (.bool (allDg s.data.toList)) ∧ w = w' := by
 go_enter Tryz.func67, Tryz.ntmps67
 go_wp2
 go_loop [3] (fun i => ∃ k : Nat, k ≤ s.size ∧ i = .int .i64 k ∧ (s.data.toList.take k).all isDg = true) (fun i => s.size - (intOf i).toNat)
 case atStart => exact ⟨0, Nat.zero_le _, rfl, rfl⟩
 case round =>
  obtain ⟨k, hk, rfl, ha⟩ := hrel
  have Ha := Lib.hid ha
  clear ha
  by_cases hlt : k < s.size
  ·
   have hlt' : (k : Int) < (s.size : Int) := by omega
   have ht := all_take s k hlt
   have HD := ref2_digit s[k]
   cases hd : isDg s[k]
   ·
    rw [hd] at HD ht
    have hn : allDg s.data.toList = false := all_no ht
    have Hn := Lib.hid hn
    clear ht hd hn
    go_wp2_with (go_at_call 101; refine (HD _).mono ?_; rintro e w' ⟨rfl, rfl⟩)
    go_ret
    exact ⟨ret_b Hn.out.symm, rfl⟩
   ·
    rw [hd] at HD ht
    have Ht := Lib.hid ht
    clear ht hd
    go_wp2_with (go_at_call 101; refine (HD _).mono ?_; rintro e w' ⟨rfl, rfl⟩)
    go_round
    case rel => exact ⟨k + 1, by omega, by go_num, by rw [Ht.out, Ha.out]; rfl⟩
    case measure => simp [intOf]; omega
  ·
   have hks : k = s.size := by omega
   have hge : ¬ (k : Int) < (s.size : Int) := by omega
   have hall : s.data.toList.all isDg = true := by
    have := Ha.out
    rwa [List.take_of_length_le (by simp; omega)] at this
   have Hall := Lib.hid hall
   clear hall hks
   by_cases h0 : s.size = 0
   ·
    obtain rfl : s = ⟨#[]⟩ := by
     apply ByteArray.ext; apply Array.eq_empty_of_size_eq_zero; exact h0
    clear h0
    go_wp2
    go_ret
    exact ⟨rfl, rfl⟩
   ·
    have e0 : allDg s.data.toList = true := by
     unfold allDg
     rw [Hall.out, Bool.true_and, Bool.not_eq_true', List.isEmpty_eq_false_iff]
     exact ne_nil h0
    have E0 := Lib.hid e0
    have n1 : s.toList.isEmpty = false := by rw [toList_data_ru]; rw [List.isEmpty_eq_false_iff]; exact ne_nil h0
    have n2 : s.data.toList.isEmpty = false := by rw [List.isEmpty_eq_false_iff]; exact ne_nil h0
    have n3 : (s.toList == []) = false := by rw [toList_data_ru, beq_eq_false_iff_ne]; exact ne_nil h0
    have n4 : (0 : Int) < (s.size : Int) := by omega
    clear h0 e0
    go_wp2
    go_ret
    first | exact ⟨ret_b E0.out.symm, rfl⟩ | exact ⟨ret_b (by rw [E0.out]; exact decide_eq_true (by omega)), rfl⟩

end Go.Proofs.YtjapddfnpmlifaaGreatDoor
