/- The root, bit by bit: plain arithmetic. · Chapter 23 in plain Lean: the functions' rows, what a series goes by, the order, what is picked. No program in sight. · Slices of series that are read; the contract of heavy: whether series are more than is looked at. · Contracts of fpick.rows, find, row.of, Of: a function's row, and what a series goes by. -/
import Derived.Test.YtbdichmkgcngbaaGreatFxMul
import Derived.Test.YtbdichmkgcngbaaGreatRunFxDiv
import Derived.Test.YtbdichmkgcngbaaGreatRunAgOf
import Derived.Sort.Defs
import Derived.Test.YtbdichmkgcngbaaGreatRunFxBase
import Derived.Lib.Hide
import Derived.Outline
namespace Go.Proofs.YtbdichmkgcngbaaGreat
open Go.RowKit

/-- the greatest number below 2^43 whose square is not above N, found bit by bit from a place down. -/
def rtAux (N : Nat) : Nat → Nat → Nat
 | 0, n => n
 | k + 1, n => rtAux N k (if (n + 2 ^ k) * (n + 2 ^ k) ≤ N then n + 2 ^ k else n)
def rtN (N : Nat) : Nat := rtAux N 42 0
def sqrtV (a : Vl) : Vl := bif knB a && decide (0 ≤ a.n) then ofV (rtN (a.n.toNat * 1000000)) else ⟨false, 0⟩

/-- what holds where k bits are still to come. -/
structure Rt (N k n : Nat) : Prop where
 hd : n % 2 ^ k = 0
 hlt : n < 2 ^ 42
 hle : n * n ≤ N
 hgt : N < (n + 2 ^ k) * (n + 2 ^ k)
 heq : rtAux N k n = rtN N
theorem Rt.start {N : Nat} (h : N < 2 ^ 84) : Rt N 42 0 :=
 { hd := by simp, hlt := by decide, hle := by simp, hgt := by rw [Nat.zero_add, ← Nat.pow_add]; exact h, heq := rfl }
theorem rtAux_succ (N k n : Nat) : rtAux N (k + 1) n = rtAux N k (if (n + 2 ^ k) * (n + 2 ^ k) ≤ N then n + 2 ^ k else n) := rfl
theorem Rt.start43 {N : Nat} (h : N < 2 ^ 84) : Rt N 43 0 :=
 {
  hd := by simp, hlt := by decide, hle := by simp
  hgt := by
   rw [Nat.zero_add, ← Nat.pow_add]
   exact Nat.lt_of_lt_of_le h (Nat.pow_le_pow_right (by decide) (by decide))
  heq := by
   have hn : ¬ (0 + 2 ^ 42) * (0 + 2 ^ 42) ≤ N := by
    rw [Nat.zero_add, ← Nat.pow_add]
    exact Nat.not_le.2 h
   have e := rtAux_succ N 42 0
   rw [if_neg hn] at e
   exact e }
theorem Rt.fit {N k n : Nat} (h : Rt N (k + 1) n) (hk : k < 42) : n + 2 ^ k < 2 ^ 42 ∧ (n + 2 ^ k) % 2 ^ k = 0 ∧ n % 2 ^ (k + 1) = 0 := by
 have h1 := h.hd
 have h2 := h.hlt
 have e : (2 : Nat) ^ 42 = 2 ^ (k + 1) * 2 ^ (41 - k) := by rw [← Nat.pow_add]; congr 1; omega
 have p : 0 < 2 ^ k := Nat.pow_pos (by omega)
 have hq : n / 2 ^ (k + 1) < 2 ^ (41 - k) := by rw [Nat.div_lt_iff_lt_mul (Nat.pow_pos (by omega)), Nat.mul_comm, ← e]; exact h2
 have hn := Nat.div_add_mod n (2 ^ (k + 1))
 rw [h1, Nat.add_zero] at hn
 refine ⟨?_, ?_, h1⟩
 ·
  have h3 : 2 ^ (k + 1) * (n / 2 ^ (k + 1) + 1) ≤ 2 ^ (k + 1) * 2 ^ (41 - k) := Nat.mul_le_mul_left _ hq
  rw [Nat.mul_add, hn, ← e, Nat.mul_one, Nat.pow_succ] at h3
  omega
 ·
  rw [Nat.add_mod_right, ← hn, Nat.pow_succ, Nat.mul_assoc, Nat.mul_mod_right]
theorem Rt.yes {N k n : Nat} (h : Rt N (k + 1) n) (hk : k < 42) (hx : (n + 2 ^ k) * (n + 2 ^ k) ≤ N) : Rt N k (n + 2 ^ k) := by
 obtain ⟨f1, f2, _⟩ := h.fit hk
 refine { hd := f2, hlt := f1, hle := hx, hgt := ?_, heq := ?_ }
 ·
  have := h.hgt
  rw [Nat.pow_succ] at this
  rwa [show n + 2 ^ k + 2 ^ k = n + 2 ^ k * 2 from by omega]
 ·
  rw [← h.heq]; show _ = rtAux N k (if _ then _ else _); rw [if_pos hx]
theorem Rt.no {N k n : Nat} (h : Rt N (k + 1) n) (hx : ¬ (n + 2 ^ k) * (n + 2 ^ k) ≤ N) : Rt N k n := by
 refine { hd := ?_, hlt := h.hlt, hle := h.hle, hgt := by omega, heq := ?_ }
 ·
  have h1 := Nat.div_add_mod n (2 ^ (k + 1))
  rw [h.hd, Nat.add_zero, Nat.pow_succ, Nat.mul_assoc] at h1
  rw [← h1, Nat.mul_mod_right]
 ·
  rw [← h.heq]; show _ = rtAux N k (if _ then _ else _); rw [if_neg hx]
theorem Rt.end_ {N n : Nat} (h : Rt N 0 n) : n = rtN N := h.heq
theorem or_pow {n k : Nat} (hd : n % 2 ^ (k + 1) = 0) (hn : n + 2 ^ k < 18446744073709551616) : bits .or .u64 (n : Int) ((2 ^ k : Nat) : Int) = ((n + 2 ^ k : Nat) : Int) := by
 rw [bits_or_u64_nat _ _ (by omega) (by omega)]
 have h1 := Nat.div_add_mod n (2 ^ (k + 1))
 rw [hd, Nat.add_zero] at h1
 have h2 := (Nat.two_pow_add_eq_or_of_lt (i := k + 1) (b := 2 ^ k) (by rw [Nat.pow_succ]; have : 0 < 2 ^ k := Nat.pow_pos (by omega); omega) (n / 2 ^ (k + 1))).symm
 rw [h1] at h2
 rw [h2]
/-- the comparison of two double words. -/
theorem dbl_le {X Y h l : Nat} (h1 : Y / 18446744073709551616 = h) (h2 : Y % 18446744073709551616 = l) :
  X ≤ Y ↔ (X / 18446744073709551616 < h ∨ (X / 18446744073709551616 = h ∧ X % 18446744073709551616 ≤ l)) := by omega
end Go.Proofs.YtbdichmkgcngbaaGreat
namespace Go.Proofs.YtbdichmkgcngbaaGreat
set_option linter.unusedVariables false
set_option linter.unusedSimpArgs false
open Go.RowKit

/-- A function's row. -/
structure Fr where
 nm : ByteArray
 kind : Int
 by_ : Int
 least : Bool
def rowsL : List Fr := [
 ⟨⟨#[97, 118, 101, 114, 97, 103, 101, 65, 98, 111, 118, 101]⟩, 5, 1, false⟩,
 ⟨⟨#[97, 118, 101, 114, 97, 103, 101, 66, 101, 108, 111, 119]⟩, 6, 1, false⟩,
 ⟨⟨#[99, 117, 114, 114, 101, 110, 116, 65, 98, 111, 118, 101]⟩, 5, 3, false⟩,
 ⟨⟨#[99, 117, 114, 114, 101, 110, 116, 66, 101, 108, 111, 119]⟩, 6, 3, false⟩,
 ⟨⟨#[101, 120, 99, 108, 117, 100, 101]⟩, 0, 0, false⟩,
 ⟨⟨#[103, 114, 101, 112]⟩, 0, 0, false⟩,
 ⟨⟨#[104, 105, 103, 104, 101, 115, 116, 65, 118, 101, 114, 97, 103, 101]⟩, 4, 1, false⟩,
 ⟨⟨#[104, 105, 103, 104, 101, 115, 116, 67, 117, 114, 114, 101, 110, 116]⟩, 4, 3, false⟩,
 ⟨⟨#[104, 105, 103, 104, 101, 115, 116, 77, 97, 120]⟩, 4, 4, false⟩,
 ⟨⟨#[108, 105, 109, 105, 116]⟩, 1, 0, false⟩,
 ⟨⟨#[108, 111, 119, 101, 115, 116, 65, 118, 101, 114, 97, 103, 101]⟩, 4, 1, true⟩,
 ⟨⟨#[108, 111, 119, 101, 115, 116, 67, 117, 114, 114, 101, 110, 116]⟩, 4, 3, true⟩,
 ⟨⟨#[109, 97, 120, 105, 109, 117, 109, 65, 98, 111, 118, 101]⟩, 5, 4, false⟩,
 ⟨⟨#[109, 97, 120, 105, 109, 117, 109, 66, 101, 108, 111, 119]⟩, 6, 4, false⟩,
 ⟨⟨#[109, 105, 110, 105, 109, 117, 109, 65, 98, 111, 118, 101]⟩, 5, 5, false⟩,
 ⟨⟨#[109, 105, 110, 105, 109, 117, 109, 66, 101, 108, 111, 119]⟩, 6, 5, false⟩,
 ⟨⟨#[109, 111, 115, 116, 68, 101, 118, 105, 97, 110, 116]⟩, 4, 6, false⟩,
 ⟨⟨#[114, 101, 109, 111, 118, 101, 69, 109, 112, 116, 121, 83, 101, 114, 105, 101, 115]⟩, 7, 0, false⟩,
 ⟨⟨#[115, 111, 114, 116, 66, 121, 77, 97, 120, 105, 109, 97]⟩, 3, 4, false⟩,
 ⟨⟨#[115, 111, 114, 116, 66, 121, 77, 105, 110, 105, 109, 97]⟩, 3, 5, true⟩,
 ⟨⟨#[115, 111, 114, 116, 66, 121, 78, 97, 109, 101]⟩, 2, 0, false⟩,
 ⟨⟨#[115, 111, 114, 116, 66, 121, 84, 111, 116, 97, 108]⟩, 3, 2, false⟩]
def noFr : Fr := ⟨⟨#[]⟩, 0, 0, false⟩
def isNm (a : ByteArray) (r : Fr) : Bool := r.nm.toList == a.toList
def findF (a : ByteArray) : Option Fr := rowsL.find? (isNm a)
def rowF (a : ByteArray) : Fr := (findF a).getD noFr

/-- how far values are from their middle. -/
def sqF (m v : Vl) : Vl := mulV (subV v m) (subV v m)
def sqL (l : List Vl) : List Vl := (kn l).map (sqF (aggV 1 (kn l)))
def devV (l : List Vl) : Vl := bif (sqL l).all (·.ok) then sqrtV (aggV 1 (sqL l)) else ⟨false, 0⟩
/-- what a function goes by. -/
def ofR (by_ : Int) (l : List Vl) : Vl := if by_ = 6 then devV l else aggV by_ l
def cmpI (a b : Int) : Int := if a < b then -1 else if b < a then 1 else 0
def cmpV (least : Bool) (x y : Vl) : Int :=
 bif x.ok then (bif y.ok then (bif least then cmpI x.n y.n else cmpI y.n x.n) else -1) else (bif y.ok then 1 else 0)
/-- does the first stand ahead of the second? -/
def ltV (least : Bool) (x y : Vl) : Bool := x.ok && (!y.ok || (bif least then decide (x.n < y.n) else decide (y.n < x.n)))
theorem cmpI_lt (a b : Int) : decide (cmpI a b < 0) = decide (a < b) := by
 unfold cmpI
 by_cases h : a < b
 ·
  simp [h]
 ·
  by_cases h' : b < a <;> simp [h, h']
theorem cmpV_lt (least : Bool) (x y : Vl) : decide (cmpV least x y < 0) = ltV least x y := by
 obtain ⟨xo, xn⟩ := x
 obtain ⟨yo, yn⟩ := y
 cases xo <;> cases yo <;> cases least <;> first | rfl | exact cmpI_lt _ _
def ltN (a b : ByteArray) : Bool := Op.bytesLess a.toList b.toList

section
variable {α β : Type}
/-- where a new one comes to stand, from the end on. -/
def posR (lt : α → α → Bool) (x : α) (out : List α) : Nat → Nat
 | 0 => 0
 | k + 1 => match out[k]? with
  | some y => bif lt x y then posR lt x out k else k + 1
  | none => k + 1
def insR (lt : α → α → Bool) (out : List α) (x : α) : List α := out.take (posR lt x out out.length) ++ x :: out.drop (posR lt x out out.length)
def sortR (lt : α → α → Bool) (l : List α) : List α := l.foldl (insR lt) []
theorem posR_le (lt : α → α → Bool) (x : α) (out : List α) : ∀ k, posR lt x out k ≤ k
 | 0 => Nat.le_refl _
 | k + 1 => by
  unfold posR
  split
  ·
   cases lt x _
   ·
    exact Nat.le_refl _
   ·
    exact Nat.le_succ_of_le (posR_le lt x out k)
  ·
   exact Nat.le_refl _
theorem insR_len (lt : α → α → Bool) (out : List α) (x : α) : (insR lt out x).length = out.length + 1 := by
 have := posR_le lt x out out.length
 unfold insR
 simp only [List.length_append, List.length_cons, List.length_take, List.length_drop]
 omega
theorem sortR_len_aux (lt : α → α → Bool) (l : List α) : ∀ o : List α, (l.foldl (insR lt) o).length = o.length + l.length := by
 induction l with
 | nil => intro o; rfl
 | cons x l ih => intro o; rw [List.foldl_cons, ih, insR_len, List.length_cons]; omega
theorem sortR_len (lt : α → α → Bool) (l : List α) : (sortR lt l).length = l.length := by
 unfold sortR; rw [sortR_len_aux]; simp
theorem sortR_succ (lt : α → α → Bool) (l : List α) {k : Nat} (h : k < l.length) : sortR lt (l.take (k + 1)) = insR lt (sortR lt (l.take k)) l[k] := by
 unfold sortR
 rw [List.take_succ_eq_append_getElem h, List.foldl_append]
 rfl
theorem insR_mem (lt : α → α → Bool) (out : List α) (x y : α) : y ∈ insR lt out x ↔ y = x ∨ y ∈ out := by
 unfold insR
 rw [List.mem_append, List.mem_cons]
 constructor
 ·
  rintro (h | h | h)
  ·
   exact .inr (List.mem_of_mem_take h)
  ·
   exact .inl h
  ·
   exact .inr (List.mem_of_mem_drop h)
 ·
  rintro (h | h)
  ·
   exact .inr (.inl h)
  ·
   have h2 : y ∈ out.take (posR lt x out out.length) ++ out.drop (posR lt x out out.length) := by rw [List.take_append_drop]; exact h
   rcases List.mem_append.1 h2 with h3 | h3
   ·
    exact .inl h3
   ·
    exact .inr (.inr h3)
theorem sortR_mem_aux (lt : α → α → Bool) (l : List α) : ∀ (o : List α) (y : α), y ∈ l.foldl (insR lt) o ↔ y ∈ o ∨ y ∈ l := by
 induction l with
 | nil => intro o y; simp
 | cons x l ih =>
  intro o y
  rw [List.foldl_cons, ih, insR_mem, List.mem_cons]
  constructor
  ·
   rintro ((h | h) | h)
   ·
    exact .inr (.inl h)
   ·
    exact .inl h
   ·
    exact .inr (.inr h)
  ·
   rintro (h | h | h)
   ·
    exact .inl (.inr h)
   ·
    exact .inl (.inl h)
   ·
    exact .inr h
theorem sortR_mem (lt : α → α → Bool) (l : List α) (y : α) : y ∈ sortR lt l ↔ y ∈ l := by
 unfold sortR; rw [sortR_mem_aux]; simp
theorem posR_map (f : α → β) (lt : β → β → Bool) (x : α) (out : List α) : ∀ k, posR lt (f x) (out.map f) k = posR (fun a b => lt (f a) (f b)) x out k
 | 0 => rfl
 | k + 1 => by
  unfold posR
  rw [List.getElem?_map]
  cases out[k]? with
  | none => rfl
  | some y => simp only [Option.map_some]; rw [posR_map f lt x out k]
theorem insR_map (f : α → β) (lt : β → β → Bool) (x : α) (out : List α) : (insR (fun a b => lt (f a) (f b)) out x).map f = insR lt (out.map f) (f x) := by
 unfold insR
 rw [List.length_map, posR_map]
 simp
theorem sortR_map_aux (f : α → β) (lt : β → β → Bool) (l : List α) : ∀ o : List α, (l.foldl (insR (fun a b => lt (f a) (f b))) o).map f = (l.map f).foldl (insR lt) (o.map f) := by
 induction l with
 | nil => intro o; rfl
 | cons x l ih => intro o; rw [List.foldl_cons, ih, insR_map, List.map_cons, List.foldl_cons]
/-- the order of what is told of a thing is that of the things. -/
theorem sortR_map (f : α → β) (lt : β → β → Bool) (l : List α) : (sortR (fun a b => lt (f a) (f b)) l).map f = sortR lt (l.map f) := sortR_map_aux f lt l []

/-- the first ones, as many as a value has whole ones. -/
def firstN (k : Vl) (n : Nat) : Nat := if k.ok = true ∧ 0 ≤ k.n then min n (k.n / 1000000).toNat else 0
def firstL (k : Vl) (l : List α) : List α := l.take (firstN k l.length)
/-- what a function picks of things that have series. -/
def pickA (g : α → Sr) (r : Fr) (k : Vl) (l : List α) : List α :=
 if r.kind = 1 then firstL k l
 else if r.kind = 2 then sortR (fun a b => ltN (g a).name (g b).name) l
 else if r.kind = 3 then sortR (fun a b => ltV r.least (ofR r.by_ (g a).vals) (ofR r.by_ (g b).vals)) l
 else if r.kind = 4 then firstL k (sortR (fun a b => ltV r.least (ofR r.by_ (g a).vals) (ofR r.by_ (g b).vals)) l)
 else if r.kind = 5 then l.filter fun a => lessB k (ofR r.by_ (g a).vals)
 else if r.kind = 6 then l.filter fun a => (ofR r.by_ (g a).vals).ok && (k.ok && decide ((ofR r.by_ (g a).vals).n ≤ k.n))
 else l.filter fun a => !(kn (g a).vals).isEmpty
theorem firstL_map (f : α → β) (k : Vl) (l : List α) : (firstL k l).map f = firstL k (l.map f) := by
 unfold firstL; rw [List.map_take, List.length_map]
theorem pickA_map (f : α → β) (g : β → Sr) (r : Fr) (k : Vl) (l : List α) : (pickA (fun a => g (f a)) r k l).map f = pickA g r k (l.map f) := by
 unfold pickA
 repeat' split
 ·
  exact firstL_map f k l
 ·
  exact sortR_map f (fun a b => ltN (g a).name (g b).name) l
 ·
  exact sortR_map f (fun a b => ltV r.least (ofR r.by_ (g a).vals) (ofR r.by_ (g b).vals)) l
 ·
  rw [firstL_map]; congr 1; exact sortR_map f (fun a b => ltV r.least (ofR r.by_ (g a).vals) (ofR r.by_ (g b).vals)) l
 ·
  rw [List.filter_map]; rfl
 ·
  rw [List.filter_map]; rfl
 ·
  rw [List.filter_map]; rfl
theorem pickA_mem (g : α → Sr) (r : Fr) (k : Vl) (l : List α) (x : α) (h : x ∈ pickA g r k l) : x ∈ l := by
 unfold pickA at h
 repeat' split at h
 ·
  exact List.mem_of_mem_take h
 ·
  exact (sortR_mem _ _ _).1 h
 ·
  exact (sortR_mem _ _ _).1 h
 ·
  exact (sortR_mem _ _ _).1 (List.mem_of_mem_take h)
 ·
  exact (List.mem_filter.1 h).1
 ·
  exact (List.mem_filter.1 h).1
 ·
  exact (List.mem_filter.1 h).1
theorem pickA_len (g : α → Sr) (r : Fr) (k : Vl) (l : List α) : (pickA g r k l).length ≤ l.length := by
 unfold pickA
 repeat' split
 ·
  exact List.length_take_le' _ _
 ·
  rw [sortR_len]; exact Nat.le_refl _
 ·
  rw [sortR_len]; exact Nat.le_refl _
 ·
  refine Nat.le_trans (List.length_take_le' _ _) ?_
  rw [sortR_len]; exact Nat.le_refl _
 ·
  exact List.length_filter_le _ _
 ·
  exact List.length_filter_le _ _
 ·
  exact List.length_filter_le _ _
end
def normV (k : Vl) : Vl := bif isB k then k else ⟨false, 0⟩
end Go.Proofs.YtbdichmkgcngbaaGreat
namespace Go.Proofs.YtbdichmkgcngbaaGreat
set_option linter.unusedVariables false
set_option linter.unusedSimpArgs false
open Go.RowKit

/-- a series as it lies: where its values lie. -/
structure Sq where
 s : Sr
 A : Option Addr
 c : Nat
def scells (L : List Sq) : List Value := L.flatMap fun x => [.string x.s.name, .int .i64 x.s.start, .int .i64 x.s.step, .slice x.A x.s.vals.length x.c, .int .i64 x.s.cons]
theorem scells_cons (x : Sq) (L : List Sq) : scells (x :: L) = .string x.s.name :: .int .i64 x.s.start :: .int .i64 x.s.step :: .slice x.A x.s.vals.length x.c :: .int .i64 x.s.cons :: scells L := rfl
theorem scells_append (L M : List Sq) : scells (L ++ M) = scells L ++ scells M := by simp [scells]
theorem scells_length (L : List Sq) : (scells L).length = L.length * 5 := by
 induction L with
 | nil => rfl
 | cons v l ih => rw [scells_cons]; simp only [List.length_cons, ih]; omega
theorem scells_at (L : List Sq) : ∀ (k : Nat) (h : k < L.length), (scells L)[k * 5]? = some (.string L[k].s.name) ∧ (scells L)[k * 5 + 1]? = some (.int .i64 L[k].s.start) ∧ (scells L)[k * 5 + 2]? = some (.int .i64 L[k].s.step) ∧ (scells L)[k * 5 + 3]? = some (.slice L[k].A L[k].s.vals.length L[k].c) ∧ (scells L)[k * 5 + 4]? = some (.int .i64 L[k].s.cons) := by
 induction L with
 | nil => intro k h; simp at h
 | cons v l ih =>
  intro k h
  rw [scells_cons]
  match k, h with
  | 0, _ => exact ⟨rfl, rfl, rfl, rfl, rfl⟩
  | k + 1, h =>
   have hk : k < l.length := by simp only [List.length_cons] at h; omega
   have e : (k + 1) * 5 = k * 5 + 1 + 1 + 1 + 1 + 1 := by omega
   have e1 : k * 5 + 1 + 1 + 1 + 1 + 1 + 1 = k * 5 + 1 + 1 + 1 + 1 + 1 + 1 := rfl
   have e2 : k * 5 + 1 + 1 + 1 + 1 + 1 + 2 = k * 5 + 2 + 1 + 1 + 1 + 1 + 1 := by omega
   have e3 : k * 5 + 1 + 1 + 1 + 1 + 1 + 3 = k * 5 + 3 + 1 + 1 + 1 + 1 + 1 := by omega
   have e4 : k * 5 + 1 + 1 + 1 + 1 + 1 + 4 = k * 5 + 4 + 1 + 1 + 1 + 1 + 1 := by omega
   rw [e, e2, e3, e4]
   simp only [List.getElem?_cons_succ, List.getElem_cons_succ]
   exact ih k hk
/-- The slice with the address A reads as the list L of series. -/
def Rl (w : World) (A : Option Addr) (L : List Sq) : Prop := Rd w 5 A L.length (scells L)
theorem Rl.gr {w w' : World} {A : Option Addr} {L : List Sq} (h : Rl w A L) (g : Gr w w') : Rl w' A L := Rd.gr h g
theorem Rl.at {w : World} {A : Option Addr} {L : List Sq} (h : Rl w A L) {k : Nat} (hk : k < L.length) : ∃ ad : Addr, A = some ad ∧ ad.block < w.heap.size ∧ w.cell? (ad.add (k * 5)) = some (.string L[k].s.name) ∧ w.cell? ⟨(ad.add (k * 5)).block, (ad.add (k * 5)).off + 1, none⟩ = some (.int .i64 L[k].s.start) ∧ w.cell? ⟨(ad.add (k * 5)).block, (ad.add (k * 5)).off + 2, none⟩ = some (.int .i64 L[k].s.step) ∧ w.cell? ⟨(ad.add (k * 5)).block, (ad.add (k * 5)).off + 3, none⟩ = some (.slice L[k].A L[k].s.vals.length L[k].c) ∧ w.cell? ⟨(ad.add (k * 5)).block, (ad.add (k * 5)).off + 4, none⟩ = some (.int .i64 L[k].s.cons) := by
 obtain ⟨ad, e, hb, hc⟩ := h.2 (by omega)
 obtain ⟨s0, s1, s2, s3, s4⟩ := scells_at L k hk
 exact ⟨ad, e, hb, hc _ _ s0, (congrArg w.cell? (add_next ad (k * 5) 0)).symm.trans (hc _ _ s1), (congrArg w.cell? (add_next ad (k * 5) 1)).symm.trans (hc _ _ s2), (congrArg w.cell? (add_next ad (k * 5) 2)).symm.trans (hc _ _ s3), (congrArg w.cell? (add_next ad (k * 5) 3)).symm.trans (hc _ _ s4)⟩
/-- a new array that holds series. -/
theorem Rl.new {W : World} {B : Nat} (hB : B = W.heap.size) (T : TypeId) (L : List Sq) : Rl (W.alloc (.cells (scells L).toArray T)) (some ⟨B, 0, none⟩) L := by
 subst hB
 refine ⟨scells_length L, fun _ => ⟨_, rfl, by simp, fun j u hu => ?_⟩⟩
 have e : (⟨W.heap.size, 0, none⟩ : Addr).add j = ⟨W.heap.size, j, none⟩ := by
  unfold Addr.add; split
  ·
   rename_i h; subst h; rfl
  ·
   rw [Nat.zero_add]
 rw [e]
 exact (cell_of_row _ _ _ _ _ _ (heap_alloc_new W _)).trans (by simpa using hu)
/-- not more than is looked at. -/
def Light (L : List Sq) : Prop := L.length ≤ 20 ∧ ∀ x ∈ L, (x.s.vals.length : Int) ≤ 120 ∧ (x.s.name.size : Int) ≤ 300
theorem light_at {L : List Sq} {k : Nat} (hk : k < L.length) (h : ∀ j (hj : j < L.length), j < k → (L[j].s.vals.length : Int) ≤ 120 ∧ (L[j].s.name.size : Int) ≤ 300) (h1 : (L[k].s.vals.length : Int) ≤ 120) (h2 : (L[k].s.name.size : Int) ≤ 300) :
  ∀ j (hj : j < L.length), j < k + 1 → (L[j].s.vals.length : Int) ≤ 120 ∧ (L[j].s.name.size : Int) ≤ 300 := by
 intro j hj hjk
 by_cases e : j = k
 ·
  subst e; exact ⟨h1, h2⟩
 ·
  exact h j hj (by omega)

/-- heavy's answer. -/
def RetH (L : List Sq) (w : World) (e : Ending) (w' : World) : Prop := (∃ b : Bool, e = .returned (.bool b) ∧ (b = false → Light L)) ∧ Gr w w'
end Go.Proofs.YtbdichmkgcngbaaGreat
namespace Go.Proofs.YtbdichmkgcngbaaGreat
open Go.RowKit
set_option linter.unusedVariables false
set_option linter.unusedSimpArgs false

def rowcells (L : List Fr) : List Value := L.flatMap fun r => [.string r.nm, .int .i64 r.kind, .int .i64 r.by_, .bool r.least]
theorem rowcells_cons (r : Fr) (L : List Fr) : rowcells (r :: L) = .string r.nm :: .int .i64 r.kind :: .int .i64 r.by_ :: .bool r.least :: rowcells L := rfl
theorem rowcells_length (L : List Fr) : (rowcells L).length = L.length * 4 := by
 induction L with
 | nil => rfl
 | cons v l ih => rw [rowcells_cons]; simp only [List.length_cons, ih]; omega
theorem rowcells_at (L : List Fr) : ∀ (k : Nat) (h : k < L.length), (rowcells L)[k * 4]? = some (.string L[k].nm) ∧ (rowcells L)[k * 4 + 1]? = some (.int .i64 L[k].kind) ∧ (rowcells L)[k * 4 + 2]? = some (.int .i64 L[k].by_) ∧ (rowcells L)[k * 4 + 3]? = some (.bool L[k].least) := by
 induction L with
 | nil => intro k h; simp at h
 | cons v l ih =>
  intro k h
  rw [rowcells_cons]
  match k, h with
  | 0, _ => exact ⟨rfl, rfl, rfl, rfl⟩
  | k + 1, h =>
   have hk : k < l.length := by simp only [List.length_cons] at h; omega
   have e : (k + 1) * 4 = k * 4 + 1 + 1 + 1 + 1 := by omega
   have e2 : k * 4 + 1 + 1 + 1 + 1 + 2 = k * 4 + 2 + 1 + 1 + 1 + 1 := by omega
   have e3 : k * 4 + 1 + 1 + 1 + 1 + 3 = k * 4 + 3 + 1 + 1 + 1 + 1 := by omega
   rw [e, e2, e3]
   simp only [List.getElem?_cons_succ, List.getElem_cons_succ]
   exact ih k hk
/-- The slice with the address A reads as the list L of rows. -/
def Rr (w : World) (A : Option Addr) (L : List Fr) : Prop := Rd w 4 A L.length (rowcells L)
theorem Rr.gr {w w' : World} {A : Option Addr} {L : List Fr} (h : Rr w A L) (g : Gr w w') : Rr w' A L := Rd.gr h g
theorem Rr.at {w : World} {A : Option Addr} {L : List Fr} (h : Rr w A L) {k : Nat} (hk : k < L.length) : ∃ ad : Addr, A = some ad ∧ ad.block < w.heap.size ∧ w.cell? (ad.add (k * 4)) = some (.string L[k].nm) ∧ w.cell? ⟨(ad.add (k * 4)).block, (ad.add (k * 4)).off + 1, none⟩ = some (.int .i64 L[k].kind) ∧ w.cell? ⟨(ad.add (k * 4)).block, (ad.add (k * 4)).off + 2, none⟩ = some (.int .i64 L[k].by_) ∧ w.cell? ⟨(ad.add (k * 4)).block, (ad.add (k * 4)).off + 3, none⟩ = some (.bool L[k].least) := by
 obtain ⟨ad, e, hb, hc⟩ := h.2 (by omega)
 obtain ⟨s0, s1, s2, s3⟩ := rowcells_at L k hk
 exact ⟨ad, e, hb, hc _ _ s0, (congrArg w.cell? (add_next ad (k * 4) 0)).symm.trans (hc _ _ s1), (congrArg w.cell? (add_next ad (k * 4) 1)).symm.trans (hc _ _ s2), (congrArg w.cell? (add_next ad (k * 4) 2)).symm.trans (hc _ _ s3)⟩
/-- a new array that holds cells. -/
theorem Rd.new {W : World} {B size n : Nat} (hB : B = W.heap.size) (T : TypeId) (xs : List Value) (hl : xs.length = n * size) : Rd (W.alloc (.cells xs.toArray T)) size (some ⟨B, 0, none⟩) n xs := by
 subst hB
 refine ⟨hl, fun _ => ⟨_, rfl, by simp, fun j u hu => ?_⟩⟩
 have e : (⟨W.heap.size, 0, none⟩ : Addr).add j = ⟨W.heap.size, j, none⟩ := by
  unfold Addr.add; split
  ·
   rename_i h; subst h; rfl
  ·
   rw [Nat.zero_add]
 rw [e]
 exact (cell_of_row _ _ _ _ _ _ (heap_alloc_new W _)).trans (by simpa using hu)

theorem rows_len : rowsL.length = 22 := rfl
def RetRows (w : World) (e : Ending) (w' : World) : Prop := ∃ A, e = .returned (.slice A rowsL.length 22) ∧ Rr w' A rowsL ∧ Gr w w'
set_option maxRecDepth 100000 in
set_option maxHeartbeats 1600000 in
theorem rows_any (w : World) : Calls Tryz.prog 43 #[] w (RetRows w) := by
 go_enter Tryz.func43, Tryz.ntmps43
 go_wp2
 go_ret
 exact ⟨_, rfl, Rd.new rfl _ (rowcells rowsL) (rowcells_length _), Gr.alloc (Gr.refl _) _⟩

/-- find's look at one row. -/
theorem look_any (r : Fr) (B : Nat) (nm : ByteArray) (w : World) (hB : w.cell? ⟨B, 0, none⟩ = some (.string nm)) (hlt : B < w.heap.size) :
  Calls Tryz.prog 45 #[.agg #[.string r.nm, .int .i64 r.kind, .int .i64 r.by_, .bool r.least], .pointer (some ⟨B, 0, none⟩)] w fun e w' => e = .returned (.bool (isNm nm r)) ∧ Gr w w' := by
 go_enter Tryz.func45, Tryz.ntmps45
 go_wp2
 go_ret
 exact ⟨rfl, (by repeat (first | exact Gr.refl _ | refine Gr.alloc ?_ _ | refine Gr.drew ?_ | refine Gr.setCell ?_ (by first | (simp; done) | (simp; omega) | omega) _ | refine Gr.trans ?_ (by assumption)))⟩

def RetIdx (nm : ByteArray) (L : List Fr) (w : World) (e : Ending) (w' : World) : Prop :=
 ∃ k : Int, e = .returned (.int .i64 k) ∧ ((k = -1 ∧ ∀ j (h : j < L.length), isNm nm L[j] = false) ∨ ∃ (i : Nat) (h : i < L.length), k = i ∧ isNm nm L[i] = true ∧ ∀ j (hj : j < L.length), j < i → isNm nm L[j] = false) ∧ Gr w w'
set_option maxRecDepth 100000 in
set_option maxHeartbeats 1600000 in
theorem idxr_any (A : Option Addr) (c : Nat) (L : List Fr) (B : Nat) (nm : ByteArray) (w : World) (hl : L.length ≤ 100) (hr : Rr w A L) (hB : w.cell? ⟨B, 0, none⟩ = some (.string nm)) (hlt : B < w.heap.size) :
  Calls Tryz.prog 44 #[.slice A L.length c, .func (.func 45) #[] #[.pointer (some ⟨B, 0, none⟩)]] w (RetIdx nm L w) := by
 have hl' : (L.length : Int) ≤ 100 := by omega
 have HB := Lib.hid hB
 clear hB hl
 go_enter Tryz.func44, Tryz.ntmps44
 go_wp2
 go_loopw [5, 8] (fun _ i wr => ∃ k : Nat, k ≤ L.length ∧ i = .int .i64 k ∧ Gr w wr ∧ Hid (∀ j (h : j < L.length), j < k → isNm nm L[j] = false)) (fun _ i _ => L.length - (intOf i).toNat)
 case atStart => exact ⟨0, Nat.zero_le _, rfl, Gr.refl _, Lib.hid (fun j _ h => absurd h (Nat.not_lt_zero _))⟩
 case round =>
  obtain ⟨k, hk, rfl, hgr, ha⟩ := hrel
  by_cases hlt2 : k < L.length
  ·
   obtain ⟨ad, rfl, hb, hx0, hx1, hx2, hx3⟩ := (hr.gr hgr).at hlt2
   have Q := fun w hB hlt => look_any L[k] B nm w hB hlt
   cases hx : isNm nm L[k]
   ·
    have Ht : Hid (∀ j (h : j < L.length), j < k + 1 → isNm nm L[j] = false) := Lib.hid (fun j h hj => by
     by_cases e : j = k
     ·
      subst e; exact hx
     ·
      exact ha.out j h (by omega))
    simp only [hx] at Q
    clear hx
    go_wp2_with fail
    refine (Q _ ((hgr.cell (p := ⟨B, 0, none⟩) hlt).trans HB.out) (Nat.lt_of_lt_of_le hlt hgr.size)).mono ?_; rintro e w1 ⟨rfl, hg⟩
    go_wp2
    go_roundw
    case rel => exact ⟨k + 1, by omega, by go_num, (by repeat (first | exact Gr.refl _ | refine Gr.alloc ?_ _ | refine Gr.drew ?_ | refine Gr.setCell ?_ (by first | (simp; done) | (simp; omega) | omega) _ | refine Gr.trans ?_ (by assumption))), Ht⟩
    case measure => simp [intOf]; omega
   ·
    have Ht : Hid (isNm nm L[k] = true) := Lib.hid hx
    simp only [hx] at Q
    clear hx
    go_wp2_with fail
    refine (Q _ ((hgr.cell (p := ⟨B, 0, none⟩) hlt).trans HB.out) (Nat.lt_of_lt_of_le hlt hgr.size)).mono ?_; rintro e w1 ⟨rfl, hg⟩
    go_wp2
    go_ret
    exact ⟨_, rfl, .inr ⟨k, hlt2, rfl, Ht.out, ha.out⟩, (by repeat (first | exact Gr.refl _ | refine Gr.alloc ?_ _ | refine Gr.drew ?_ | refine Gr.setCell ?_ (by first | (simp; done) | (simp; omega) | omega) _ | refine Gr.trans ?_ (by assumption)))⟩
  ·
   have hkk : k = L.length := by omega
   subst hkk
   go_wp2
   go_ret
   exact ⟨_, rfl, .inl ⟨rfl, fun j h => ha.out j h h⟩, hgr⟩

theorem find_none {nm : ByteArray} {L : List Fr} (h : ∀ j (h : j < L.length), isNm nm L[j] = false) : L.find? (isNm nm) = none := by
 rw [List.find?_eq_none]
 intro x hx
 obtain ⟨j, hj, rfl⟩ := List.getElem_of_mem hx
 rw [h j hj]; decide
theorem find_some {nm : ByteArray} {L : List Fr} {i : Nat} (hi : i < L.length) (h : isNm nm L[i] = true) (hb : ∀ j (hj : j < L.length), j < i → isNm nm L[j] = false) : L.find? (isNm nm) = some L[i] := by
 rw [List.find?_eq_some_iff_getElem]
 refine ⟨h, i, hi, rfl, fun j hj => ?_⟩
 rw [hb j (Nat.lt_trans hj hi) hj]; rfl

def aggFr (r : Fr) : Value := .agg #[.string r.nm, .int .i64 r.kind, .int .i64 r.by_, .bool r.least]
def RetFind (nm : ByteArray) (w : World) (e : Ending) (w' : World) : Prop := e = .returned (.tuple #[aggFr (rowF nm), .bool (findF nm).isSome]) ∧ Gr w w'
set_option maxRecDepth 100000 in
set_option maxHeartbeats 3200000 in
theorem find_any (nm : ByteArray) (w : World) : Calls Tryz.prog 25 #[.string nm] w (RetFind nm w) := by
 go_enter Tryz.func25, Tryz.ntmps25
 go_wp2_with fail
 refine (rows_any _).mono ?_; rintro e w1 ⟨A1, rfl, hrr, hg1⟩
 have hgw : Gr w w1 := (by repeat (first | exact Gr.refl _ | refine Gr.alloc ?_ _ | refine Gr.drew ?_ | refine Gr.setCell ?_ (by first | (simp; done) | (simp; omega) | omega) _ | refine Gr.trans ?_ (by assumption)))
 have z1 := hg1.size
 simp at z1
 have z0 : w.heap.size < w1.heap.size := by omega
 have z2 : w.heap.size + 1 < w1.heap.size := by omega
 have q0 : w1.cell? ⟨w.heap.size, 0, none⟩ = some (.string nm) := (hg1.cell (p := ⟨w.heap.size, 0, none⟩) (by simp; omega)).trans (by go_simp)
 have p0 : w1.cell? ⟨w.heap.size + 1, 0, none⟩ = some (.string ⟨#[]⟩) := (hg1.cell (p := ⟨w.heap.size + 1, 0, none⟩) (by simp)).trans (by go_simp)
 have p1 : w1.cell? ⟨w.heap.size + 1, 1, none⟩ = some (.int .i64 0) := (hg1.cell (p := ⟨w.heap.size + 1, 1, none⟩) (by simp)).trans (by go_simp)
 have p2 : w1.cell? ⟨w.heap.size + 1, 2, none⟩ = some (.int .i64 0) := (hg1.cell (p := ⟨w.heap.size + 1, 2, none⟩) (by simp)).trans (by go_simp)
 have p3 : w1.cell? ⟨w.heap.size + 1, 3, none⟩ = some (.bool false) := (hg1.cell (p := ⟨w.heap.size + 1, 3, none⟩) (by simp)).trans (by go_simp)
 have g0 : w1.frozen? ⟨w.heap.size + 1, 0, none⟩ = false := (hg1.frozen (p := ⟨w.heap.size + 1, 0, none⟩) (by simp)).trans (by go_simp)
 have g1 : w1.frozen? ⟨w.heap.size + 1, 1, none⟩ = false := (hg1.frozen (p := ⟨w.heap.size + 1, 1, none⟩) (by simp)).trans (by go_simp)
 have g2 : w1.frozen? ⟨w.heap.size + 1, 2, none⟩ = false := (hg1.frozen (p := ⟨w.heap.size + 1, 2, none⟩) (by simp)).trans (by go_simp)
 have g3 : w1.frozen? ⟨w.heap.size + 1, 3, none⟩ = false := (hg1.frozen (p := ⟨w.heap.size + 1, 3, none⟩) (by simp)).trans (by go_simp)
 clear hg1 z1
 go_wp2_with fail
 refine (idxr_any A1 22 rowsL w.heap.size nm w1 (by decide) hrr q0 z0).mono ?_; rintro e w2 ⟨k, rfl, hk, hg2⟩
 obtain ⟨hc, hf⟩ := hg2.cells
 have z1 := hg2.size
 have hrr2 := hrr.gr hg2
 have z3 : w.heap.size + 1 < w2.heap.size := by omega
 replace p0 := (hg2.cell (p := ⟨w.heap.size + 1, 0, none⟩) z2).trans p0
 replace p1 := (hg2.cell (p := ⟨w.heap.size + 1, 1, none⟩) z2).trans p1
 replace p2 := (hg2.cell (p := ⟨w.heap.size + 1, 2, none⟩) z2).trans p2
 replace p3 := (hg2.cell (p := ⟨w.heap.size + 1, 3, none⟩) z2).trans p3
 replace g0 := (hg2.frozen (p := ⟨w.heap.size + 1, 0, none⟩) z2).trans g0
 replace g1 := (hg2.frozen (p := ⟨w.heap.size + 1, 1, none⟩) z2).trans g1
 replace g2 := (hg2.frozen (p := ⟨w.heap.size + 1, 2, none⟩) z2).trans g2
 replace g3 := (hg2.frozen (p := ⟨w.heap.size + 1, 3, none⟩) z2).trans g3
 have hgw2 := Gr.trans hgw hg2
 clear hc hf hrr hg2 hgw q0 z0 z1 z2
 rcases hk with ⟨rfl, hn⟩ | ⟨i, hi, rfl, hy, hb⟩
 ·
  have E : Hid (rowF nm = noFr ∧ (findF nm).isSome = false) := Lib.hid ⟨by unfold rowF findF; rw [find_none hn]; rfl, by unfold findF; rw [find_none hn]; rfl⟩
  clear hn hrr2
  go_wp2
  exact bodyPost_ret (v := .tuple #[.agg #[.string ⟨#[]⟩, .int .i64 0, .int .i64 0, .bool false], .bool false]) (by simp [results, Tryz.results25, go_sem, *]) rfl ⟨by rw [E.out.1, E.out.2]; rfl, (by repeat (first | exact Gr.refl _ | refine Gr.alloc ?_ _ | refine Gr.drew ?_ | refine Gr.setCell ?_ (by first | (simp; done) | (simp; omega) | omega) _ | refine Gr.trans ?_ (by assumption)))⟩
 ·
  have E : Hid (rowF nm = rowsL[i] ∧ (findF nm).isSome = true) := Lib.hid ⟨by unfold rowF findF; rw [find_some hi hy hb]; rfl, by unfold findF; rw [find_some hi hy hb]; rfl⟩
  obtain ⟨ad, rfl, hbk, hx0, hx1, hx2, hx3⟩ := hrr2.at hi
  generalize rowsL[i] = r at hx0 hx1 hx2 hx3 E
  clear hy hb hrr2
  generalize rowsL.length = n at hi ⊢
  go_wp2
  exact bodyPost_ret (v := .tuple #[.agg #[.string r.nm, .int .i64 r.kind, .int .i64 r.by_, .bool r.least], .bool true]) (by simp [results, Tryz.results25, go_sem, *]) rfl ⟨by rw [E.out.1, E.out.2]; rfl, (by repeat (first | exact Gr.refl _ | refine Gr.alloc ?_ _ | refine Gr.drew ?_ | refine Gr.setCell ?_ (by first | (simp; done) | (simp; omega) | omega) _ | refine Gr.trans ?_ (by assumption)))⟩
end Go.Proofs.YtbdichmkgcngbaaGreat
