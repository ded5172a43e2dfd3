/- Plain notions for the proofs of this seat: 'Gr' (nothing that was there has turned), values of api.Val and their functions. No program in sight. -/
import Derived.WalkKit
import Derived.WalkSpells
import Derived.WalkLawsBesides
namespace Go.Proofs.Ytpcmdijgepbilaa
open Go.RowKit

/-- everything that was there is as it was. -/
def Gr (w w' : World) : Prop := Below w.heap.size w w'
theorem Gr.refl (w : World) : Gr w w := Below.refl _ _
theorem Gr.size {a w : World} (h : Gr a w) : a.heap.size ≤ w.heap.size := Below.size h
theorem Gr.alloc {a w : World} (h : Gr a w) (o : Obj) : Gr a (w.alloc o) := Below.alloc h h.size o
theorem Gr.drew {a w : World} (h : Gr a w) : Gr a w.drew := Below.drew h
theorem Gr.setCell {a w : World} (h : Gr a w) {p : Addr} (hp : a.heap.size ≤ p.block) (u : Value) : Gr a (w.setCell p u) := Below.setCell h hp u
theorem Gr.trans {a b c : World} (h : Gr a b) (k : Gr b c) : Gr a c := Below.trans h (Below.mono k h.size)
theorem Gr.cells {W w1 : World} (hb : Gr W w1) : (∀ b o, b < W.heap.size → w1.cell? ⟨b, o, none⟩ = W.cell? ⟨b, o, none⟩) ∧ (∀ b o, b < W.heap.size → w1.frozen? ⟨b, o, none⟩ = W.frozen? ⟨b, o, none⟩) :=
  ⟨fun b o h => Below.cell hb (p := ⟨b, o, none⟩) h, fun b o h => Below.frozen hb (p := ⟨b, o, none⟩) h⟩

/-- An api.Val. -/
structure Vl where
  ok : Bool
  n : Int

def isB (a : Vl) : Bool := bif a.ok then (decide (-4611686018427387904 ≤ a.n) && decide (a.n ≤ 4611686018427387904)) else a.n == 0
def knB (a : Vl) : Bool := a.ok && isB a
def ofV (n : Int) : Vl := bif isB ⟨true, n⟩ then ⟨true, n⟩ else ⟨false, 0⟩
def intV (n : Int) : Vl := bif decide (-4611686018427 ≤ n) && decide (n ≤ 4611686018427) then ofV (n * 1000000) else ⟨false, 0⟩
def sumV (a b : Vl) : Vl := bif knB a && knB b then ofV (a.n + b.n) else ⟨false, 0⟩
def addV (l : List Vl) : Vl := l.foldl sumV (ofV 0)
def subV (a b : Vl) : Vl := bif knB a && knB b then ofV (a.n - b.n) else ⟨false, 0⟩
def absV (a : Vl) : Vl := bif knB a then ofV (max a.n (-a.n)) else ⟨false, 0⟩
def lessB (a b : Vl) : Bool := knB a && knB b && decide (a.n < b.n)

theorem isB_iff (ok : Bool) (n : Int) : isB ⟨ok, n⟩ = true ↔ (if ok = true then -4611686018427387904 ≤ n ∧ n ≤ 4611686018427387904 else n = 0) := by
  cases ok <;> simp [isB]
theorem knB_iff (a : Vl) : knB a = true ↔ a.ok = true ∧ -4611686018427387904 ≤ a.n ∧ a.n ≤ 4611686018427387904 := by
  obtain ⟨ok, n⟩ := a
  cases ok <;> simp [knB, isB]
theorem knB_lo {a : Vl} (h : knB a = true) : -4611686018427387904 ≤ a.n := ((knB_iff a).1 h).2.1
theorem knB_hi {a : Vl} (h : knB a = true) : a.n ≤ 4611686018427387904 := ((knB_iff a).1 h).2.2
theorem knB_ok {a : Vl} (h : knB a = true) : a.ok = true := ((knB_iff a).1 h).1
theorem ofV_in {n : Int} (h : -4611686018427387904 ≤ n) (h' : n ≤ 4611686018427387904) : ofV n = ⟨true, n⟩ := by simp [ofV, isB, h, h']
theorem ofV_hi {n : Int} (h : 4611686018427387904 < n) : ofV n = ⟨false, 0⟩ := by
  have : ¬ n ≤ 4611686018427387904 := by omega
  simp [ofV, isB, this]
theorem ofV_lo {n : Int} (h : n < -4611686018427387904) : ofV n = ⟨false, 0⟩ := by
  have : ¬ -4611686018427387904 ≤ n := by omega
  simp [ofV, isB, this]
theorem ofV_isB (n : Int) : isB (ofV n) = true := by
  unfold ofV
  cases h : isB ⟨true, n⟩
  · rfl
  · exact h
theorem ofV_ok_kn {n : Int} : knB (ofV n) = (ofV n).ok := by simp [knB, ofV_isB]

end Go.Proofs.Ytpcmdijgepbilaa
