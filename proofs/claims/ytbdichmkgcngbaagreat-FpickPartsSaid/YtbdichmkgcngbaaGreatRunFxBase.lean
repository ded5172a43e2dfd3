/- Plain notions for the proofs of this seat: 'Gr' (nothing that was there has turned), values of api.Val and their functions. No program in sight. · Contracts of chapter 1's small functions, of the program's package fixed and of the reference: each walked once. · Slices that are read: a slice value that reads as a list of cells, nil let in ('Rd'); lists of values of api.Val ('Rv'). Kept by 'Gr'. · append onto a row of the call's own, the source a slice that reads as a list ('Rd'), nil let in. · Contracts of Known, of the program's package agg and of the reference: those that are not none. -/
import Derived.WalkKit
import Derived.WalkSpells
import Derived.WalkLawsBesides
import Derived.Test.YtbdichmkgcngbaaGreatProg
import Derived.Deep.RegionHeld3
import Derived.Maps.AppendAt
import Derived.OwnWalk
import Derived.Lib.Hide
namespace Go.Proofs.YtbdichmkgcngbaaGreat
open Go.RowKit

/-- everything that was there is as it was. -/
def Gr (w w' : World) : Prop := Below w.heap.size w w'
theorem Gr.refl (w : World) : Gr w w := Below.refl _ _
theorem Gr.size {a w : World} (h : Gr a w) : a.heap.size ≤ w.heap.size := Below.size h
theorem Gr.alloc {a w : World} (h : Gr a w) (o : Obj) : Gr a (w.alloc o) := Below.alloc h h.size o
theorem Gr.drew {a w : World} (h : Gr a w) : Gr a w.drew := Below.drew h
theorem Gr.setCell {a w : World} (h : Gr a w) {p : Addr} (hp : a.heap.size ≤ p.block) (u : Value) : Gr a (w.setCell p u) := Below.setCell h hp u
theorem Gr.trans {a b c : World} (h : Gr a b) (k : Gr b c) : Gr a c := Below.trans h (Below.mono k h.size)
theorem Gr.cells {W w1 : World} (hb : Gr W w1) : (∀ b o, b < W.heap.size → w1.cell? ⟨b, o, none⟩ = W.cell? ⟨b, o, none⟩) ∧ (∀ b o, b < W.heap.size → w1.frozen? ⟨b, o, none⟩ = W.frozen? ⟨b, o, none⟩) :=
 ⟨fun b o h => Below.cell hb (p := ⟨b, o, none⟩) h, fun b o h => Below.frozen hb (p := ⟨b, o, none⟩) h⟩

/-- An api.Val. -/
structure Vl where
 ok : Bool
 n : Int

def isB (a : Vl) : Bool := bif a.ok then (decide (-4611686018427387904 ≤ a.n) && decide (a.n ≤ 4611686018427387904)) else a.n == 0
def knB (a : Vl) : Bool := a.ok && isB a
def ofV (n : Int) : Vl := bif isB ⟨true, n⟩ then ⟨true, n⟩ else ⟨false, 0⟩
def intV (n : Int) : Vl := bif decide (-4611686018427 ≤ n) && decide (n ≤ 4611686018427) then ofV (n * 1000000) else ⟨false, 0⟩
def sumV (a b : Vl) : Vl := bif knB a && knB b then ofV (a.n + b.n) else ⟨false, 0⟩
def addV (l : List Vl) : Vl := l.foldl sumV (ofV 0)
def subV (a b : Vl) : Vl := bif knB a && knB b then ofV (a.n - b.n) else ⟨false, 0⟩
def absV (a : Vl) : Vl := bif knB a then ofV (max a.n (-a.n)) else ⟨false, 0⟩
def lessB (a b : Vl) : Bool := knB a && knB b && decide (a.n < b.n)

theorem isB_iff (ok : Bool) (n : Int) : isB ⟨ok, n⟩ = true ↔ (if ok = true then -4611686018427387904 ≤ n ∧ n ≤ 4611686018427387904 else n = 0) := by
 cases ok <;> simp [isB]
theorem knB_iff (a : Vl) : knB a = true ↔ a.ok = true ∧ -4611686018427387904 ≤ a.n ∧ a.n ≤ 4611686018427387904 := by
 obtain ⟨ok, n⟩ := a
 cases ok <;> simp [knB, isB]
theorem knB_lo {a : Vl} (h : knB a = true) : -4611686018427387904 ≤ a.n := ((knB_iff a).1 h).2.1
theorem knB_hi {a : Vl} (h : knB a = true) : a.n ≤ 4611686018427387904 := ((knB_iff a).1 h).2.2
theorem knB_ok {a : Vl} (h : knB a = true) : a.ok = true := ((knB_iff a).1 h).1
theorem ofV_in {n : Int} (h : -4611686018427387904 ≤ n) (h' : n ≤ 4611686018427387904) : ofV n = ⟨true, n⟩ := by simp [ofV, isB, h, h']
theorem ofV_hi {n : Int} (h : 4611686018427387904 < n) : ofV n = ⟨false, 0⟩ := by
 have : ¬ n ≤ 4611686018427387904 := by omega
 simp [ofV, isB, this]
theorem ofV_lo {n : Int} (h : n < -4611686018427387904) : ofV n = ⟨false, 0⟩ := by
 have : ¬ -4611686018427387904 ≤ n := by omega
 simp [ofV, isB, this]
theorem ofV_isB (n : Int) : isB (ofV n) = true := by
 unfold ofV
 cases h : isB ⟨true, n⟩
 ·
  rfl
 ·
  exact h
theorem ofV_ok_kn {n : Int} : knB (ofV n) = (ofV n).ok := by simp [knB, ofV_isB]

theorem Pu : (∀ (t : Array Value) (f : List Deferred) (d : Tmp) (v : Value), Act.put ⟨t, f⟩ (some d) v = ⟨t.setIfInBounds d v, f⟩) ∧ (∀ (a : Act) (v : Value), a.put none v = a) ∧ (∀ (l : List Value) (i : Nat) (x : Value), l.toArray.setIfInBounds i x = (l.set i x).toArray)
 ∧ (∀ (x y : Value) (l : List Value), (x :: l).set 0 y = y :: l) ∧ (∀ (x y : Value) (l : List Value) (n : Nat), (x :: l).set (n + 1) y = x :: l.set n y) :=
 ⟨fun _ _ _ _ => rfl, fun _ _ => rfl, fun l i x => List.setIfInBounds_toArray l i x, fun _ _ _ => rfl, fun _ _ _ _ => rfl⟩
end Go.Proofs.YtbdichmkgcngbaaGreat
namespace Go.Proofs.YtbdichmkgcngbaaGreat
open Go.RowKit

set_option maxHeartbeats 400000 in
theorem is_any (ok : Bool) (n : Int) (w : World) :
  Calls Tryz.prog 29 #[.agg #[.bool ok, .int .i64 n]] w fun e w' => e = .returned (.bool (isB ⟨ok, n⟩)) ∧ Gr w w' := by
 cases ok <;>
 ·
  go_enter Tryz.func29, Tryz.ntmps29
  go_wp2
  all_goals (go_ret; exact ⟨by simp [isB, *] <;> omega, (by repeat (first | exact Gr.refl _ | refine Gr.alloc ?_ _ | refine Gr.drew ?_ | refine Gr.setCell ?_ (by first | (simp; done) | (simp; omega) | omega) _ | refine Gr.trans ?_ (by assumption)))⟩)
set_option maxHeartbeats 400000 in
theorem ris_any (ok : Bool) (n : Int) (w : World) :
  Calls Tryz.prog 24 #[.agg #[.bool ok, .int .i64 n]] w fun e w' => e = .returned (.bool (isB ⟨ok, n⟩)) ∧ Gr w w' := by
 cases ok <;>
 ·
  go_enter Tryz.func24, Tryz.ntmps24
  go_wp2
  all_goals (go_ret; exact ⟨by simp [isB, *] <;> omega, (by repeat (first | exact Gr.refl _ | refine Gr.alloc ?_ _ | refine Gr.drew ?_ | refine Gr.setCell ?_ (by first | (simp; done) | (simp; omega) | omega) _ | refine Gr.trans ?_ (by assumption)))⟩)

set_option maxHeartbeats 400000 in
theorem of_any (n : Int) (w : World) :
  Calls Tryz.prog 134 #[.int .i64 n] w fun e w' => e = .returned (.agg #[.bool (ofV n).ok, .int .i64 (ofV n).n]) ∧ Gr w w' := by
 go_enter Tryz.func134, Tryz.ntmps134
 go_wp2_with (go_at_call 29; refine (is_any true n _).mono ?_; rintro e w1 ⟨rfl, hg⟩; obtain ⟨hc, hf⟩ := hg.cells; have hz := hg.size)
 all_goals
  have q0 : w1.cell? ⟨w.heap.size, 0, none⟩ = some (.bool false) := by go_simp
  have q1 : w1.cell? ⟨w.heap.size, 1, none⟩ = some (.int .i64 0) := by go_simp
  exact bodyPost_ret (v := .agg #[.bool (ofV n).ok, .int .i64 (ofV n).n]) (by simp [results, Tryz.results134, go_sem, ofV, *]) rfl ⟨rfl, (by repeat (first | exact Gr.refl _ | refine Gr.alloc ?_ _ | refine Gr.drew ?_ | refine Gr.setCell ?_ (by first | (simp; done) | (simp; omega) | omega) _ | refine Gr.trans ?_ (by assumption)))⟩
set_option maxHeartbeats 400000 in
theorem rof_any (n : Int) (w : World) :
  Calls Tryz.prog 39 #[.int .i64 n] w fun e w' => e = .returned (.agg #[.bool (ofV n).ok, .int .i64 (ofV n).n]) ∧ Gr w w' := by
 by_cases h1 : n < -4611686018427387904
 ·
  have hv := ofV_lo h1
  rw [hv]; clear hv
  go_enter Tryz.func39, Tryz.ntmps39
  go_wp2
  exact bodyPost_ret (v := .agg #[.bool false, .int .i64 0]) (by simp [results, Tryz.results39, go_sem]) rfl ⟨rfl, (by repeat (first | exact Gr.refl _ | refine Gr.alloc ?_ _ | refine Gr.drew ?_ | refine Gr.setCell ?_ (by first | (simp; done) | (simp; omega) | omega) _ | refine Gr.trans ?_ (by assumption)))⟩
 ·
  by_cases h2 : 4611686018427387904 < n
  ·
   have hv := ofV_hi h2
   rw [hv]; clear hv
   go_enter Tryz.func39, Tryz.ntmps39
   go_wp2
   exact bodyPost_ret (v := .agg #[.bool false, .int .i64 0]) (by simp [results, Tryz.results39, go_sem]) rfl ⟨rfl, (by repeat (first | exact Gr.refl _ | refine Gr.alloc ?_ _ | refine Gr.drew ?_ | refine Gr.setCell ?_ (by first | (simp; done) | (simp; omega) | omega) _ | refine Gr.trans ?_ (by assumption)))⟩
  ·
   have hv := ofV_in (n := n) (by omega) (by omega)
   rw [hv]; clear hv
   go_enter Tryz.func39, Tryz.ntmps39
   go_wp2
   exact bodyPost_ret (v := .agg #[.bool true, .int .i64 n]) (by simp [results, Tryz.results39, go_sem]) rfl ⟨rfl, (by repeat (first | exact Gr.refl _ | refine Gr.alloc ?_ _ | refine Gr.drew ?_ | refine Gr.setCell ?_ (by first | (simp; done) | (simp; omega) | omega) _ | refine Gr.trans ?_ (by assumption)))⟩
set_option maxHeartbeats 400000 in
theorem int_any (n : Int) (w : World) :
  Calls Tryz.prog 121 #[.int .i64 n] w fun e w' => e = .returned (.agg #[.bool (intV n).ok, .int .i64 (intV n).n]) ∧ Gr w w' := by
 by_cases h1 : n < -4611686018427
 ·
  have hv : intV n = ⟨false, 0⟩ := by
   have : ¬ -4611686018427 ≤ n := by omega
   simp [intV, this]
  rw [hv]; clear hv
  go_enter Tryz.func121, Tryz.ntmps121
  go_wp2
  exact bodyPost_ret (v := .agg #[.bool false, .int .i64 0]) (by simp [results, Tryz.results121, go_sem]) rfl ⟨rfl, (by repeat (first | exact Gr.refl _ | refine Gr.alloc ?_ _ | refine Gr.drew ?_ | refine Gr.setCell ?_ (by first | (simp; done) | (simp; omega) | omega) _ | refine Gr.trans ?_ (by assumption)))⟩
 ·
  by_cases h2 : 4611686018427 < n
  ·
   have hv : intV n = ⟨false, 0⟩ := by
    have : ¬ n ≤ 4611686018427 := by omega
    simp [intV, this]
   rw [hv]; clear hv
   go_enter Tryz.func121, Tryz.ntmps121
   go_wp2
   exact bodyPost_ret (v := .agg #[.bool false, .int .i64 0]) (by simp [results, Tryz.results121, go_sem]) rfl ⟨rfl, (by repeat (first | exact Gr.refl _ | refine Gr.alloc ?_ _ | refine Gr.drew ?_ | refine Gr.setCell ?_ (by first | (simp; done) | (simp; omega) | omega) _ | refine Gr.trans ?_ (by assumption)))⟩
  ·
   have hv : intV n = ofV (n * 1000000) := by
    have a1 : -4611686018427 ≤ n := by omega
    have a2 : n ≤ 4611686018427 := by omega
    simp [intV, a1, a2]
   rw [hv]; clear hv
   go_enter Tryz.func121, Tryz.ntmps121
   go_wp2_with (go_at_call 134; refine (of_any (n * 1000000) _).mono ?_; rintro e w1 ⟨rfl, hg⟩; obtain ⟨hc, hf⟩ := hg.cells; have hz := hg.size)
   have q0 : w1.cell? ⟨w.heap.size, 0, none⟩ = some (.bool false) := by go_simp
   have q1 : w1.cell? ⟨w.heap.size, 1, none⟩ = some (.int .i64 0) := by go_simp
   exact bodyPost_ret (v := .agg #[.bool (ofV (n * 1000000)).ok, .int .i64 (ofV (n * 1000000)).n]) (by simp [results, Tryz.results121, go_sem, *]) rfl ⟨rfl, (by repeat (first | exact Gr.refl _ | refine Gr.alloc ?_ _ | refine Gr.drew ?_ | refine Gr.setCell ?_ (by first | (simp; done) | (simp; omega) | omega) _ | refine Gr.trans ?_ (by assumption)))⟩
set_option maxHeartbeats 400000 in
theorem rint_any (n : Int) (w : World) :
  Calls Tryz.prog 22 #[.int .i64 n] w fun e w' => e = .returned (.agg #[.bool (intV n).ok, .int .i64 (intV n).n]) ∧ Gr w w' := by
 by_cases h1 : n < -4611686018427
 ·
  have hv : intV n = ⟨false, 0⟩ := by
   have : ¬ -4611686018427 ≤ n := by omega
   simp [intV, this]
  rw [hv]; clear hv
  go_enter Tryz.func22, Tryz.ntmps22
  go_wp2
  exact bodyPost_ret (v := .agg #[.bool false, .int .i64 0]) (by simp [results, Tryz.results22, go_sem]) rfl ⟨rfl, (by repeat (first | exact Gr.refl _ | refine Gr.alloc ?_ _ | refine Gr.drew ?_ | refine Gr.setCell ?_ (by first | (simp; done) | (simp; omega) | omega) _ | refine Gr.trans ?_ (by assumption)))⟩
 ·
  by_cases h2 : 4611686018427 < n
  ·
   have hv : intV n = ⟨false, 0⟩ := by
    have : ¬ n ≤ 4611686018427 := by omega
    simp [intV, this]
   rw [hv]; clear hv
   go_enter Tryz.func22, Tryz.ntmps22
   go_wp2
   exact bodyPost_ret (v := .agg #[.bool false, .int .i64 0]) (by simp [results, Tryz.results22, go_sem]) rfl ⟨rfl, (by repeat (first | exact Gr.refl _ | refine Gr.alloc ?_ _ | refine Gr.drew ?_ | refine Gr.setCell ?_ (by first | (simp; done) | (simp; omega) | omega) _ | refine Gr.trans ?_ (by assumption)))⟩
  ·
   have hv : intV n = ofV (n * 1000000) := by
    have a1 : -4611686018427 ≤ n := by omega
    have a2 : n ≤ 4611686018427 := by omega
    simp [intV, a1, a2]
   rw [hv]; clear hv
   go_enter Tryz.func22, Tryz.ntmps22
   go_wp2_with (go_at_call 39; refine (rof_any (n * 1000000) _).mono ?_; rintro e w1 ⟨rfl, hg⟩; obtain ⟨hc, hf⟩ := hg.cells; have hz := hg.size)
   have q0 : w1.cell? ⟨w.heap.size, 0, none⟩ = some (.bool false) := by go_simp
   have q1 : w1.cell? ⟨w.heap.size, 1, none⟩ = some (.int .i64 0) := by go_simp
   exact bodyPost_ret (v := .agg #[.bool (ofV (n * 1000000)).ok, .int .i64 (ofV (n * 1000000)).n]) (by simp [results, Tryz.results22, go_sem, *]) rfl ⟨rfl, (by repeat (first | exact Gr.refl _ | refine Gr.alloc ?_ _ | refine Gr.drew ?_ | refine Gr.setCell ?_ (by first | (simp; done) | (simp; omega) | omega) _ | refine Gr.trans ?_ (by assumption)))⟩
set_option maxHeartbeats 400000 in
theorem kn_any (a : Vl) (w : World) :
  Calls Tryz.prog 93 #[.agg #[.bool a.ok, .int .i64 a.n]] w fun e w' => e = .returned (.bool (knB a)) ∧ Gr w w' := by
 obtain ⟨ok, n⟩ := a
 cases ok
 ·
  go_enter Tryz.func93, Tryz.ntmps93
  go_wp2
  go_ret
  exact ⟨by simp [knB], (by repeat (first | exact Gr.refl _ | refine Gr.alloc ?_ _ | refine Gr.drew ?_ | refine Gr.setCell ?_ (by first | (simp; done) | (simp; omega) | omega) _ | refine Gr.trans ?_ (by assumption)))⟩
 ·
  go_enter Tryz.func93, Tryz.ntmps93
  go_wp2_with (go_at_call 29; refine (is_any _ _ _).mono ?_; rintro e w1 ⟨rfl, hg⟩; obtain ⟨hc, hf⟩ := hg.cells; have hz := hg.size)
  go_ret
  exact ⟨by simp [knB], (by repeat (first | exact Gr.refl _ | refine Gr.alloc ?_ _ | refine Gr.drew ?_ | refine Gr.setCell ?_ (by first | (simp; done) | (simp; omega) | omega) _ | refine Gr.trans ?_ (by assumption)))⟩
set_option maxHeartbeats 400000 in
theorem rkn_any (a : Vl) (w : World) :
  Calls Tryz.prog 16 #[.agg #[.bool a.ok, .int .i64 a.n]] w fun e w' => e = .returned (.bool (knB a)) ∧ Gr w w' := by
 obtain ⟨ok, n⟩ := a
 cases ok
 ·
  go_enter Tryz.func16, Tryz.ntmps16
  go_wp2
  go_ret
  exact ⟨by simp [knB], (by repeat (first | exact Gr.refl _ | refine Gr.alloc ?_ _ | refine Gr.drew ?_ | refine Gr.setCell ?_ (by first | (simp; done) | (simp; omega) | omega) _ | refine Gr.trans ?_ (by assumption)))⟩
 ·
  go_enter Tryz.func16, Tryz.ntmps16
  go_wp2_with (go_at_call 24; refine (ris_any _ _ _).mono ?_; rintro e w1 ⟨rfl, hg⟩; obtain ⟨hc, hf⟩ := hg.cells; have hz := hg.size)
  go_ret
  exact ⟨by simp [knB], (by repeat (first | exact Gr.refl _ | refine Gr.alloc ?_ _ | refine Gr.drew ?_ | refine Gr.setCell ?_ (by first | (simp; done) | (simp; omega) | omega) _ | refine Gr.trans ?_ (by assumption)))⟩
set_option maxHeartbeats 400000 in
theorem two_any (a b : Vl) (w : World) :
  Calls Tryz.prog 97 #[.agg #[.bool a.ok, .int .i64 a.n], .agg #[.bool b.ok, .int .i64 b.n]] w fun e w' => e = .returned (.bool (knB a && knB b)) ∧ Gr w w' := by
 cases ha : knB a
 ·
  go_enter Tryz.func97, Tryz.ntmps97
  go_wp2_with (go_at_call 16; refine (rkn_any a _).mono ?_; rintro e w1 ⟨rfl, hg⟩; obtain ⟨hc, hf⟩ := hg.cells; have hz := hg.size)
  go_ret
  exact ⟨by simp, (by repeat (first | exact Gr.refl _ | refine Gr.alloc ?_ _ | refine Gr.drew ?_ | refine Gr.setCell ?_ (by first | (simp; done) | (simp; omega) | omega) _ | refine Gr.trans ?_ (by assumption)))⟩
 ·
  go_enter Tryz.func97, Tryz.ntmps97
  go_wp2_with fail
  refine (rkn_any a _).mono ?_; rintro e w1 ⟨rfl, hg⟩; obtain ⟨hc, hf⟩ := hg.cells; have hz := hg.size
  go_wp2_with (go_at_call 16; refine (rkn_any b _).mono ?_; rintro e w1 ⟨rfl, hg⟩; obtain ⟨hc, hf⟩ := hg.cells; have hz := hg.size)
  go_ret
  exact ⟨by simp, (by repeat (first | exact Gr.refl _ | refine Gr.alloc ?_ _ | refine Gr.drew ?_ | refine Gr.setCell ?_ (by first | (simp; done) | (simp; omega) | omega) _ | refine Gr.trans ?_ (by assumption)))⟩
end Go.Proofs.YtbdichmkgcngbaaGreat
namespace Go.Proofs.YtbdichmkgcngbaaGreat
open Go.RowKit

theorem add_blk (a : Addr) (n : Nat) : (a.add n).block = a.block := by unfold Addr.add; split <;> rfl
theorem add_two (a : Addr) (i j : Nat) : (a.add i).add j = a.add (i + j) := by
 unfold Addr.add
 rcases Nat.eq_zero_or_pos i with hi | hi <;> rcases Nat.eq_zero_or_pos j with hj | hj
 ·
  simp [hi, hj]
 ·
  simp [hi, Nat.ne_of_gt hj]
 ·
  simp [hj]
 ·
  simp [Nat.ne_of_gt hi, Nat.ne_of_gt hj, Nat.add_assoc]

theorem add_next (a : Addr) (i j : Nat) : a.add (i + (j + 1)) = ⟨(a.add i).block, (a.add i).off + (j + 1), none⟩ := by
 rw [← add_two]; rfl

/-- The slice '.slice A n c' holds the cells xs (n elements of so many cells), all of them in w. -/
def Rd (w : World) (size : Nat) (A : Option Addr) (n : Nat) (xs : List Value) : Prop :=
 xs.length = n * size ∧ (0 < n → ∃ ad, A = some ad ∧ ad.block < w.heap.size ∧ ∀ j u, xs[j]? = some u → w.cell? (ad.add j) = some u)
theorem Rd.nil (w : World) (size : Nat) (A : Option Addr) : Rd w size A 0 [] := ⟨by simp, fun h => absurd h (by omega)⟩
theorem Gr.cell {w w' : World} (h : Gr w w') {p : Addr} (hp : p.block < w.heap.size) : w'.cell? p = w.cell? p := Below.cell h hp
theorem Gr.frozen {w w' : World} (h : Gr w w') {p : Addr} (hp : p.block < w.heap.size) : w'.frozen? p = w.frozen? p := Below.frozen h hp
theorem Rd.gr {w w' : World} {size n : Nat} {A : Option Addr} {xs : List Value} (h : Rd w size A n xs) (g : Gr w w') : Rd w' size A n xs :=
 ⟨h.1, fun hn => by
  obtain ⟨ad, e, hb, hc⟩ := h.2 hn
  exact ⟨ad, e, Nat.lt_of_lt_of_le hb g.size, fun j u hu => (g.cell (by rw [add_blk]; exact hb)).trans (hc j u hu)⟩⟩

/-- the cells of values. -/
def vcells (l : List Vl) : List Value := l.flatMap fun v => [.bool v.ok, .int .i64 v.n]
theorem vcells_cons (v : Vl) (l : List Vl) : vcells (v :: l) = .bool v.ok :: .int .i64 v.n :: vcells l := rfl
theorem vcells_append (l m : List Vl) : vcells (l ++ m) = vcells l ++ vcells m := by simp [vcells]
theorem vcells_length (l : List Vl) : (vcells l).length = l.length * 2 := by
 induction l with
 | nil => rfl
 | cons v l ih => rw [vcells_cons]; simp only [List.length_cons, ih]; omega
theorem vcells_at (l : List Vl) : ∀ (k : Nat) (h : k < l.length), (vcells l)[k * 2]? = some (.bool l[k].ok) ∧ (vcells l)[k * 2 + 1]? = some (.int .i64 l[k].n) := by
 induction l with
 | nil => intro k h; simp at h
 | cons v l ih =>
  intro k h
  rw [vcells_cons]
  match k, h with
  | 0, _ => exact ⟨rfl, rfl⟩
  | k + 1, h =>
   have hk : k < l.length := by simp only [List.length_cons] at h; omega
   have e : (k + 1) * 2 = k * 2 + 1 + 1 := by omega
   rw [e]
   simp only [List.getElem?_cons_succ, List.getElem_cons_succ]
   exact ih k hk
/-- The slice with the address A reads as the list l of values. -/
def Rv (w : World) (A : Option Addr) (l : List Vl) : Prop := Rd w 2 A l.length (vcells l)
theorem Rv.nil (w : World) (A : Option Addr) : Rv w A [] := Rd.nil w 2 A
theorem Rv.gr {w w' : World} {A : Option Addr} {l : List Vl} (h : Rv w A l) (g : Gr w w') : Rv w' A l := Rd.gr h g
theorem Rv.at {w : World} {A : Option Addr} {l : List Vl} (h : Rv w A l) {k : Nat} (hk : k < l.length) :
  ∃ ad : Addr, A = some ad ∧ ad.block < w.heap.size ∧ w.cell? (ad.add (k * 2)) = some (.bool l[k].ok) ∧ w.cell? ⟨(ad.add (k * 2)).block, (ad.add (k * 2)).off + 1, none⟩ = some (.int .i64 l[k].n) := by
 obtain ⟨ad, e, hb, hc⟩ := h.2 (by omega)
 exact ⟨ad, e, hb, hc _ _ (vcells_at l k hk).1, (congrArg w.cell? (add_next ad (k * 2) 0)).symm.trans (hc _ _ (vcells_at l k hk).2)⟩

end Go.Proofs.YtbdichmkgcngbaaGreat
namespace Go.Proofs.YtbdichmkgcngbaaGreat
set_option linter.unusedVariables false
set_option linter.unusedSimpArgs false
open Go.RowKit

section
variable {P : Program} {w : World}
theorem append_nil_run (base : Nat) (t ty e : TypeId) (i : TypeInfo) (size : Nat) (ht : P.underlying t = some (.slice e)) (hi : P.info? e = some i)
  {v : Value} {n : Nat} {xs : List Value} (hown : w.ownsRow base e size v n xs) (c : Nat) : (Builtin.append_ #[t, t] ty #[v, .slice none 0 c]).run P w = .ok v w := by
 obtain ⟨_, ⟨hv, _⟩ | ⟨g, cap, cur, hv, _, _, hnc, _⟩⟩ := hown <;> subst hv
 ·
  simp [Builtin.append_, run_underlying ht, sizeOf, typeInfo, hi, Builtin.lenOf, Builtin.firstCells]
 ·
  simp [Builtin.append_, run_underlying ht, sizeOf, typeInfo, hi, Builtin.lenOf, Builtin.firstCells, hnc, storeCells]

theorem wpList_append_rd {ops : Array Oper} {rest : List Oper} {o : Oper} {a : Act} {Q : Exit → Act → World → Prop} (hgd : o.guard = none) (s x : Operand) (t : TypeId)
  (ho : o.op = .call { callee := .builtin .append, args := #[s, x], argTypes := #[t, t] })
  (base : Nat) (e : TypeId) (i : TypeInfo) (z : Value) (size bytes : Nat) (ht : P.underlying t = some (.slice e)) (hi : P.info? e = some i) (hz : i.zero = some z)
  (hsize : i.size = size) (hby : i.bytes = bytes) (hzs : z.cells.size = size) (hsz : 0 < size)
  (v : Value) (n : Nat) (xs : List Value) (hs : a.eval s = v) (hown : w.ownsRow base e size v n xs)
  (A : Option Addr) (m c : Nat) (news : List Value) (hx : a.eval x = .slice A m c) (hr : Rd w size A m news) (h1 : ∀ u ∈ news, u.oneCell' = true)
  (h63 : n + m ≤ maxLen) (hbytes : (n + m) * bytes ≤ 140737488355328) (hbase : base ≤ w.heap.size)
  (h : ∀ v' w', w'.ownsRow base e size v' (n + m) (xs ++ news) → w.grownBy w' v.ownBlock → (v'.ownBlock = v.ownBlock ∨ v'.ownBlock = some w.heap.size) → wpList P ops Q rest (a.put o.dst v') w') : wpList P ops Q (o :: rest) a w := by
 have hrun : ∃ v' w', (Builtin.append_ #[t, t] o.type #[v, .slice A m c]).run P w = .ok v' w' ∧ w'.ownsRow base e size v' (n + m) (xs ++ news) ∧ w.grownBy w' v.ownBlock ∧ (v'.ownBlock = v.ownBlock ∨ v'.ownBlock = some w.heap.size) := by
  rcases Nat.eq_zero_or_pos m with hm | hm
  ·
   subst hm
   have hn : news = [] := List.eq_nil_of_length_eq_zero (by simpa using hr.1)
   subst hn
   cases A with
   | none => exact ⟨v, w, append_nil_run base t o.type e i size ht hi hown c, by simpa using hown, World.grownBy.refl w _, .inl rfl⟩
   | some ad =>
    obtain ⟨v', w', k1, k2, k3, _, k5⟩ := run_append_own_at (P := P) w base t o.type e i z size bytes ht hi hz hsize hby hzs hsz v n xs hown ad 0 c [] (by simp) (by intro j u hu; simp at hu) (by intro u hu; simp at hu) h63 hbytes hbase
    exact ⟨v', w', k1, k2, k3, k5⟩
  ·
   obtain ⟨ad, rfl, _, hc⟩ := hr.2 hm
   obtain ⟨v', w', k1, k2, k3, _, k5⟩ := run_append_own_at (P := P) w base t o.type e i z size bytes ht hi hz hsize hby hzs hsz v n xs hown ad m c news hr.1 hc h1 h63 hbytes hbase
   exact ⟨v', w', k1, k2, k3, k5⟩
 obtain ⟨v', w', hr1, h2, h3, h4⟩ := hrun
 refine wpList_plain hgd fun K hK => ?_
 unfold Oper.wp execOp
 simp only [ho, resolve, invoke, builtin, Sem.run_bind, Sem.run_pure, Result.andThen_ok, List.map_toArray, List.map_cons, List.map_nil, hs, hx, hr1]
 exact hK _ _ (h v' w' h2 h3 h4)
end

theorem vcells_one (l : List Vl) : ∀ u ∈ vcells l, u.oneCell' = true := by
 intro u hu
 simp only [vcells, List.mem_flatMap] at hu
 obtain ⟨v, _, hv⟩ := hu
 simp at hv
 rcases hv with rfl | rfl <;> rfl

/-- a row of the call's own reads. -/
theorem Rd.own {w : World} {base : Nat} {e : TypeId} {size n c : Nat} {A : Option Addr} {xs : List Value} (h : w.ownsRow base e size (.slice A n c) n xs) : Rd w size A n xs := by
 refine ⟨h.1, fun hn => ?_⟩
 have h' := h
 obtain ⟨_, ⟨hv, h0⟩ | ⟨g, cap, cur, hv, _, hh, _, _, _, _⟩⟩ := h'
 ·
  omega
 ·
  have hA : A = some ⟨g, 0, none⟩ := by injection hv
  subst hA
  refine ⟨_, rfl, ?_, h.cells (g := g) rfl⟩
  rcases Nat.lt_or_ge g w.heap.size with hlt | hge
  ·
   exact hlt
  ·
   rw [Array.getElem?_eq_none hge] at hh; cases hh
/-- the form of a row of the call's own. -/
theorem own_form {w : World} {base : Nat} {e : TypeId} {size n : Nat} {v : Value} {xs : List Value} (h : w.ownsRow base e size v n xs) : ∃ A c, v = .slice A n c := by
 obtain ⟨_, ⟨hv, h0⟩ | ⟨g, cap, cur, hv, _⟩⟩ := h
 ·
  subst h0; exact ⟨none, 0, hv⟩
 ·
  exact ⟨_, _, hv⟩
/-- what append has made is new to the caller. -/
theorem Gr.grown {w0 w w' : World} {row : Option Nat} (h : Gr w0 w) (hg : w.grownBy w' row) (hr : ∀ k, row = some k → w0.heap.size ≤ k) : Gr w0 w' := Below.grown h hg h.size hr
end Go.Proofs.YtbdichmkgcngbaaGreat
namespace Go.Proofs.YtbdichmkgcngbaaGreat
open Go.RowKit

def kn (l : List Vl) : List Vl := l.filter knB
theorem kn_take {l : List Vl} {k : Nat} (h : k < l.length) : kn (l.take (k + 1)) = kn (l.take k) ++ (if knB l[k] = true then [l[k]] else []) := by
 unfold kn
 rw [List.take_succ_eq_append_getElem h, List.filter_append]
 simp [List.filter_cons]
theorem kn_len (l : List Vl) : (kn l).length ≤ l.length := List.length_filter_le _ _
theorem kn_take_len (l : List Vl) (k : Nat) : (kn (l.take k)).length ≤ l.length := Nat.le_trans (kn_len _) (List.length_take_le' k l)
theorem info_val : (Tryz.prog.info? 23).map (fun i => (i.zero, i.size, i.bytes)) = some (some (.agg #[.bool false, .int .i64 0]), 2, 16) := by kernel_rfl

/-- a slice of values is handed back. -/
def RetV (l : List Vl) (w : World) (e : Ending) (w' : World) : Prop := ∃ A c, e = .returned (.slice A l.length c) ∧ Rv w' A l ∧ Gr w w'

/-- a new array that holds values. -/
theorem Rv.new {W : World} {B : Nat} (hB : B = W.heap.size) (T : TypeId) (l : List Vl) : Rv (W.alloc (.cells (vcells l).toArray T)) (some ⟨B, 0, none⟩) l := by
 subst hB
 refine ⟨vcells_length l, fun _ => ⟨_, rfl, by simp, fun j u hu => ?_⟩⟩
 have e : (⟨W.heap.size, 0, none⟩ : Addr).add j = ⟨W.heap.size, j, none⟩ := by
  unfold Addr.add; split
  ·
   rename_i h; subst h; rfl
  ·
   rw [Nat.zero_add]
 rw [e]
 exact (cell_of_row _ _ _ _ _ _ (heap_alloc_new W _)).trans (by simpa using hu)

/-- an owned row behind what leaves all old blocks alone. -/
theorem own_gr {w w' : World} {base : Nat} {e : TypeId} {size n : Nat} {v : Value} {xs : List Value} (h : w.ownsRow base e size v n xs) (g : Gr w w') : w'.ownsRow base e size v n xs := by
 obtain ⟨h1, ⟨hv, h0⟩ | ⟨g', cap, cur, hv, hb, hh, h2⟩⟩ := h
 ·
  exact ⟨h1, .inl ⟨hv, h0⟩⟩
 ·
  refine ⟨h1, .inr ⟨g', cap, cur, hv, hb, ?_, h2⟩⟩
  have hlt : g' < w.heap.size := by
   rcases Nat.lt_or_ge g' w.heap.size with hlt | hge
   ·
    exact hlt
   ·
    rw [Array.getElem?_eq_none hge] at hh; cases hh
  exact (Below.block g g' hlt).trans hh

set_option maxRecDepth 100000 in
set_option maxHeartbeats 1600000 in
theorem known_vals_any (A : Option Addr) (c : Nat) (l : List Vl) (w : World) (hl : l.length ≤ 1000000) (hr : Rv w A l) :
  Calls Tryz.prog 65 #[.slice A l.length c] w (RetV (kn l) w) := by
 have hl' : (l.length : Int) ≤ 1000000 := by omega
 obtain ⟨i0, hi, hz0, hz1, hz2⟩ := info_parts info_val
 go_enter Tryz.func65, Tryz.ntmps65
 go_wp2
 go_loopw [3, 8] (fun v i wr => ∃ k : Nat, k ≤ l.length ∧ i = .int .i64 k ∧ Gr w wr ∧ wr.ownsRow w.heap.size 23 2 v (kn (l.take k)).length (vcells (kn (l.take k))))
  (fun _ i _ => l.length - (intOf i).toNat)
 case atStart => exact ⟨0, Nat.zero_le _, rfl, Gr.refl _, World.ownsRow_nil _ _ _ _⟩
 case round =>
  obtain ⟨k, hk, rfl, hgr, hown⟩ := hrel
  by_cases hlt : k < l.length
  ·
   obtain ⟨ad, rfl, hb, hx0, hx1⟩ := (hr.gr hgr).at hlt
   have Ht := Lib.hid (kn_take hlt)
   have hkl := kn_take_len l k
   cases hok : l[k].ok
   ·
    have hkn : knB l[k] = false := by simp [knB, hok]
    rw [hkn] at Ht
    go_wp2
    go_roundw
    case rel => exact ⟨k + 1, by omega, by go_num, (by repeat (first | exact Gr.refl _ | refine Gr.alloc ?_ _ | refine Gr.drew ?_ | refine Gr.setCell ?_ (by first | (simp; done) | (simp; omega) | omega) _ | refine Gr.trans ?_ (by assumption))), by rw [Ht.out]; simpa using hown.alloc _⟩
    case measure => simp [intOf]; omega
   ·
    cases hkn : knB l[k]
    ·
     have hib : isB ⟨true, l[k].n⟩ = false := by
      have : knB l[k] = (l[k].ok && isB ⟨l[k].ok, l[k].n⟩) := rfl
      rw [hok, Bool.true_and] at this; rw [← this]; exact hkn
     rw [hkn] at Ht
     go_wp2_with fail
     refine (is_any true l[k].n _).mono ?_; rintro e w1 ⟨rfl, hg⟩; obtain ⟨hc, hf⟩ := hg.cells
     have hown1 := own_gr (hown.alloc _) hg
     clear hkn
     go_wp2
     go_roundw
     case rel => exact ⟨k + 1, by omega, by go_num, (by repeat (first | exact Gr.refl _ | refine Gr.alloc ?_ _ | refine Gr.drew ?_ | refine Gr.setCell ?_ (by first | (simp; done) | (simp; omega) | omega) _ | refine Gr.trans ?_ (by assumption))), by rw [Ht.out]; simpa using hown1⟩
     case measure => simp [intOf]; omega
    ·
     have hib : isB ⟨true, l[k].n⟩ = true := by
      have : knB l[k] = (l[k].ok && isB ⟨l[k].ok, l[k].n⟩) := rfl
      rw [hok, Bool.true_and] at this; rw [← this]; exact hkn
     rw [hkn] at Ht
     go_wp2_with fail
     refine (is_any true l[k].n _).mono ?_; rintro e w1 ⟨rfl, hg⟩; obtain ⟨hc, hf⟩ := hg.cells
     have z1 := hg.size
     simp at z1
     have hown1 := own_gr (hown.alloc _) hg
     have hgw1 : Gr w w1 := (by repeat (first | exact Gr.refl _ | refine Gr.alloc ?_ _ | refine Gr.drew ?_ | refine Gr.setCell ?_ (by first | (simp; done) | (simp; omega) | omega) _ | refine Gr.trans ?_ (by assumption)))
     have z2 := hgw1.size
     have hrx := Rv.new (W := w1) rfl 23 [l[k]]
     have hv0 := (hown1.alloc (.cells (vcells [l[k]]).toArray 23))
     have hvl := hown1.lt
     clear hkn
     go_wp2_with (at_builtin; refine wpList_append_rd rfl (.tmp 18) (.tmp 20) 28 rfl w.heap.size 23 i0 _ 2 16 Tryz.underlying28 hi hz0 hz1 hz2 rfl (by decide) _ _ _ rfl (by rw [← hok]; exact hv0) (some ⟨w1.heap.size, 0, none⟩) 1 _ (vcells [l[k]]) rfl (by rw [← hok]; exact hrx) (vcells_one _) (by unfold maxLen; omega) (by omega) (by simp; omega) ?_; intro v' w2 hown2 hgr2 hat2)
     have hg2 : Gr w w2 := Gr.grown (Gr.alloc hgw1 _) hgr2 (fun k hk => (hvl k hk).1)
     clear hv0 hvl hgr2 hat2 hrx
     go_wp2
     go_roundw
     case rel => exact ⟨k + 1, by omega, by go_num, hg2, by rw [Ht.out]; simpa [vcells_append] using hown2⟩
     case measure => simp [intOf]; omega
  ·
   have hkk : k = l.length := by omega
   subst hkk
   rw [List.take_length] at hown
   obtain ⟨A', c', hv⟩ := own_form hown
   subst hv
   go_wp2
   go_ret
   exact ⟨A', c', rfl, Rd.own hown, hgr⟩
end Go.Proofs.YtbdichmkgcngbaaGreat
