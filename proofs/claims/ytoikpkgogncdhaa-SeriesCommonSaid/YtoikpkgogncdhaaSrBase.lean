/- Plain notions of chapter 18: a series, whether it may be, where a time lies in it, what it is at other times. No program in sight. -/
import Derived.Test.YtoikpkgogncdhaaAgOf
namespace Go.Proofs.Ytoikpkgogncdhaa
set_option linter.unusedVariables false
set_option linter.unusedSimpArgs false
open Go.RowKit

/-- An api.Series. -/
structure Sr where
  name : ByteArray
  start : Int
  step : Int
  vals : List Vl
  cons : Int

def isS (s : Sr) : Bool :=
  decide ((s.name.size : Int) ≤ 4096) && (decide (0 ≤ s.start) && (decide (s.start ≤ 4294967295) && (decide (1 ≤ s.step) && (decide (s.step ≤ 1099511627776) && (decide ((s.vals.length : Int) ≤ 131072) && (decide (0 ≤ s.cons) && (decide (s.cons ≤ 5) && s.vals.all isB)))))))
structure Ok (s : Sr) : Prop where
  name : (s.name.size : Int) ≤ 4096
  s0 : 0 ≤ s.start
  s1 : s.start ≤ 4294967295
  p0 : 1 ≤ s.step
  p1 : s.step ≤ 1099511627776
  len : (s.vals.length : Int) ≤ 131072
  c0 : 0 ≤ s.cons
  c1 : s.cons ≤ 5
  all : s.vals.all isB = true
theorem isS_iff (s : Sr) : isS s = true ↔ Ok s := by
  unfold isS
  simp only [Bool.and_eq_true, decide_eq_true_eq]
  constructor
  · rintro ⟨a, b, c, d, e, f, g, h, i⟩; exact ⟨a, b, c, d, e, f, g, h, i⟩
  · rintro ⟨a, b, c, d, e, f, g, h, i⟩; exact ⟨a, b, c, d, e, f, g, h, i⟩
def endS (s : Sr) : Int := if isS s = true then s.start + s.vals.length * s.step else 0
def consS (s : Sr) : Int := if isS s = true then (if s.cons = 0 then 1 else s.cons) else 1
/-- how many of its values stand ahead of a time. -/
def plS (s : Sr) (t : Int) : Nat := if t ≤ s.start then 0 else min s.vals.length ((t - s.start - 1) / s.step + 1).toNat
def withinS (s : Sr) (a b : Int) : List Vl := (s.vals.take (plS s b)).drop (plS s a)
def fitOk (s : Sr) (start step n : Int) : Bool := isS s && (decide (1 ≤ step) && (decide (step ≤ 1099511627776) && (decide (0 ≤ n) && (decide (n ≤ 131072) && (decide (0 ≤ start) && decide (start ≤ 4294967295))))))
def fitV (s : Sr) (start step : Int) (k : Nat) : Vl := aggV (consS s) (withinS s (start + k * step) (start + k * step + step))
def fitL (s : Sr) (start step : Int) (n : Nat) : List Vl := (List.range n).map (fitV s start step)
def fitS (s : Sr) (start step n : Int) : Sr := if fitOk s start step n = true then ⟨s.name, start, step, fitL s start step n.toNat, s.cons⟩ else s
theorem fitL_len (s : Sr) (start step : Int) (n : Nat) : (fitL s start step n).length = n := by simp [fitL]
theorem fitL_succ (s : Sr) (start step : Int) (n : Nat) : fitL s start step (n + 1) = fitL s start step n ++ [fitV s start step n] := by simp [fitL, List.range_succ]

theorem plS_le (s : Sr) (t : Int) : plS s t ≤ s.vals.length := by unfold plS; split <;> omega
/-- which values stand ahead of a time. -/
theorem lt_plS {s : Sr} (hp : 1 ≤ s.step) (t : Int) {i : Nat} (hi : i < s.vals.length) : (i < plS s t ↔ s.start + i * s.step < t) := by
  unfold plS
  have hi0 : (0 : Int) ≤ (i : Int) * s.step := Int.mul_nonneg (by omega) (by omega)
  split
  · constructor <;> intro h <;> omega
  · rename_i h
    have hd : ((t - s.start - 1) / s.step + 1).toNat = ((t - s.start - 1) / s.step).toNat + 1 := by
      have := Int.ediv_nonneg (a := t - s.start - 1) (b := s.step) (by omega) (by omega)
      omega
    have key : (i : Int) ≤ (t - s.start - 1) / s.step ↔ (i : Int) * s.step ≤ t - s.start - 1 := Int.le_ediv_iff_mul_le (by omega)
    have hn := Int.ediv_nonneg (a := t - s.start - 1) (b := s.step) (by omega) (by omega)
    rw [hd]
    constructor
    · intro h1
      have := key.1 (by omega)
      omega
    · intro h1
      have := key.2 (by omega)
      omega
theorem plS_mono {s : Sr} (hp : 1 ≤ s.step) {a b : Int} (h : a ≤ b) : plS s a ≤ plS s b := by
  rcases Nat.lt_or_ge (plS s b) (plS s a) with hlt | hge
  · have hi : plS s b < s.vals.length := Nat.lt_of_lt_of_le hlt (plS_le s a)
    have h1 := (lt_plS hp a hi).1 hlt
    have h2 : ¬ (s.start + (plS s b : Nat) * s.step < b) := fun h => absurd ((lt_plS hp b hi).2 h) (Nat.lt_irrefl _)
    omega
  · exact hge
theorem drop_take_succ {l : List Vl} {p i : Nat} (hi : i < l.length) (h : p ≤ i) : (l.take (i + 1)).drop p = (l.take i).drop p ++ [l[i]] := by
  rw [List.take_succ_eq_append_getElem hi, List.drop_append_of_le_length (by simp; omega)]
theorem drop_take_none {l : List Vl} {p i : Nat} (h : i ≤ p) : (l.take i).drop p = [] := List.drop_eq_nil_of_le (by simp; omega)
theorem withinS_len (s : Sr) (a b : Int) : (withinS s a b).length = plS s b - plS s a := by
  have := plS_le s b
  simp [withinS]; omega
/-- a number by another one, rounded up. -/
def upI (n by_ : Int) : Int := (n + by_ - 1) / by_
def shrinkOk (s : Sr) (most : Int) : Bool := isS s && (decide (1 ≤ most) && decide (most < (s.vals.length : Int)))
def shrinkS (s : Sr) (most : Int) : Sr :=
  if shrinkOk s most = true then (if 1099511627776 / upI s.vals.length most < s.step then s else fitS s s.start (upI s.vals.length most * s.step) (upI s.vals.length (upI s.vals.length most))) else s
end Go.Proofs.Ytoikpkgogncdhaa
