/- How the arguments of this seat's laws are opened for the walks. · How rows of numbers that come in as arguments are opened for the walks. -/
import Derived.Test.YtoncapkmaeghfaaRunFxBase
import Derived.Test.YtoncapkmaeghfaaRows
import Derived.ProofKit
import Derived.Lib.SmallJoins
import Derived.Deep.SlicePairs
import Derived.Carry
import Derived.ShutString
import Derived.Test.YtoncapkmaeghfaaRunWiRol
import Derived.Deep.Slices
namespace Go.Proofs.Ytoncapkmaeghfaa
set_option maxRecDepth 100000
open Go.ChangeShapes Go.WideShapes Go.ChangeAt Go.RowKit Go.Joins
open Go.Deep (open_slice_pairs)

theorem own_knob : ownKnob Try.prog.godebug = none := by kernel_rfl
theorem laid_out : laidOutB Try.prog = true := by kernel_rfl
theorem cells_val : Try.prog.cellsOf 47 = 2 := by kernel_rfl

theorem i64_lo {n : Int} (h : (Lit.int .i64 n).wf = true) : -9223372036854775808 ≤ n := by
 simp [Lit.wf, IntKind.min, IntKind.max, IntKind.signed, IntKind.bits] at h; omega
theorem i64_hi {n : Int} (h : (Lit.int .i64 n).wf = true) : n ≤ 9223372036854775807 := by
 simp [Lit.wf, IntKind.min, IntKind.max, IntKind.signed, IntKind.bits] at h; omega

section
variable {H : Type} {enc : TypeId × Value → H} {w : World} {base : Nat} {spare : Nat → Bool} {held : Bool}
/-- a number that fits an int. -/
def I64 (n : Int) : Prop := -9223372036854775808 ≤ n ∧ n ≤ 9223372036854775807
theorem open_val {r : Reach} {b0 : Nat} {v : Value} {d : DataW H} {p : List MemPlace} (hv : Value.okWide Try.prog w r b0 47 v)
  (h : DataW.Trod enc Try.prog w base spare held 47 v d p) : ∃ a : Vl, v = .agg #[.bool a.ok, .int .i64 a.n] ∧ I64 a.n := by
 obtain ⟨c0, c1, y0, y1, m, rfl, rfl, rfl, hy0, hy1⟩ := open_agg2 Try.underlying47 (by kernel_rfl) cells_val hv h
 obtain ⟨ok, e0, rfl⟩ := DataW.trod_bool Try.underlying4 hy0
 obtain ⟨n, e1, rfl, wn⟩ := DataW.trod_int Try.underlying3 hy1
 simp at e0 e1
 subst e0 e1
 exact ⟨⟨ok, n⟩, rfl, i64_lo wn, i64_hi wn⟩

theorem choose_vl {m : Nat} {P : Nat → Vl → Prop} (h : ∀ i, i < m → ∃ a, P i a) : ∃ l : List Vl, l.length = m ∧ ∀ i (hi : i < l.length), P i l[i] := by
 induction m with
 | zero => exact ⟨[], rfl, fun i hi => absurd hi (by simp)⟩
 | succ m ih =>
  obtain ⟨l, hl, hp⟩ := ih (fun i hi => h i (by omega))
  obtain ⟨a, ha⟩ := h m (by omega)
  refine ⟨l ++ [a], by simp [hl], fun i hi => ?_⟩
  by_cases hlt : i < l.length
  ·
   rw [List.getElem_append_left hlt]; exact hp i hlt
  ·
   obtain rfl : i = m := by simp at hi; omega
   simpa [hl] using ha

theorem vflat_at (l : List Vl) (j : Nat) (u : Value) (h : (vcells l)[j]? = some u) : ∃ k, ∃ hk : k < l.length, (j = k * 2 ∧ u = .bool l[k].ok) ∨ (j = k * 2 + 1 ∧ u = .int .i64 l[k].n) := by
 have hj : j < (vcells l).length := (List.getElem?_eq_some_iff.1 h).1
 rw [vcells_length] at hj
 have hk : j / 2 < l.length := by omega
 obtain ⟨e0, e1⟩ := vcells_at l (j / 2) hk
 refine ⟨j / 2, hk, ?_⟩
 rcases Nat.mod_two_eq_zero_or_one j with hm | hm
 ·
  have ej : j = j / 2 * 2 := by omega
  rw [← ej, h] at e0
  exact .inl ⟨ej, by simpa using e0⟩
 ·
  have ej : j = j / 2 * 2 + 1 := by omega
  rw [← ej, h] at e1
  exact .inr ⟨ej, by simpa using e1⟩

/-- a slice of values that came in. -/
theorem open_vals {r : Reach} {b0 : Nat} {v : Value} {d : DataW H} {p : List MemPlace} (hv : Value.okWide Try.prog w r b0 41 v)
  (h : DataW.Trod enc Try.prog w 0 (fun _ => true) held 41 v d p) : ∃ (A : Option Addr) (l : List Vl) (c : Nat), v = .slice A l.length c ∧ l.length ≤ maxLen ∧ l.length ≤ c ∧ Rv w A l ∧ ∀ x ∈ l, I64 x.n := by
 obtain ⟨a0, len, cap, rfl⟩ := okWide_slice Try.underlying41 hv
 obtain ⟨fuel, hf⟩ := h
 rcases open_slice_pairs Try.underlying41 Try.underlying47 cells_val rfl rfl (by kernel_rfl) (by kernel_rfl) hf with ⟨hcs, _⟩ | ⟨a, len', cap', m, n, V0, V1, D0, D1, P0, P1, hcs, hb, hl, hm, hmm, hx, hi⟩
 ·
  simp [Value.cells] at hcs
  obtain ⟨rfl, rfl, rfl⟩ := hcs
  exact ⟨none, [], 0, rfl, Nat.zero_le _, Nat.zero_le _, Rv.nil _ _, fun x hx => by simp at hx⟩
 ·
  simp [Value.cells] at hcs
  obtain ⟨rfl, rfl, rfl⟩ := hcs
  simp at hmm
  subst hmm
  have each : ∀ i, i < len → ∃ x : Vl, (w.cell? (a.add (i * 2)) = some (.bool x.ok) ∧ w.cell? (a.add (i * 2 + 1)) = some (.int .i64 x.n)) ∧ I64 x.n := by
   intro i hi'
   obtain ⟨h0, h1, t0, t1⟩ := hi i (by omega)
   obtain ⟨ok, e0, _⟩ := DataW.trod_bool Try.underlying4 t0
   obtain ⟨z, e1, _, wz⟩ := DataW.trod_int Try.underlying3 t1
   simp at e0 e1
   rw [e0] at h0
   rw [e1] at h1
   exact ⟨⟨ok, z⟩, ⟨h0, h1⟩, i64_lo wz, i64_hi wz⟩
  obtain ⟨l, hll, hp⟩ := choose_vl each
  refine ⟨some a, l, _, by rw [hll], by omega, by omega, ⟨vcells_length l, fun hn => ⟨a, rfl, ?_, ?_⟩⟩, ?_⟩
  ·
   have h0 := (hp 0 hn).1.1
   rw [Nat.zero_mul] at h0
   exact World.block_lt_of_cell? w _ h0
  ·
   intro j u hu
   obtain ⟨k, hk, ⟨rfl, rfl⟩ | ⟨rfl, rfl⟩⟩ := vflat_at l j u hu
   ·
    exact (hp k hk).1.1
   ·
    exact (hp k hk).1.2
  ·
   intro x hx
   obtain ⟨i, hi, rfl⟩ := List.getElem_of_mem hx
   exact (hp i hi).2
end
end Go.Proofs.Ytoncapkmaeghfaa
namespace Go.Proofs.Ytoncapkmaeghfaa
set_option linter.unusedVariables false
set_option linter.unusedSimpArgs false
set_option maxRecDepth 100000
open Go.ChangeShapes Go.WideShapes Go.ChangeAt Go.RowKit Go.Joins

section
variable {H : Type} {enc : TypeId × Value → H} {w : World} {held : Bool}
theorem choose_z {m : Nat} {P : Nat → Int → Prop} (h : ∀ i, i < m → ∃ a, P i a) : ∃ l : List Int, l.length = m ∧ ∀ i (hi : i < l.length), P i l[i] := by
 induction m with
 | zero => exact ⟨[], rfl, fun i hi => absurd hi (by simp)⟩
 | succ m ih =>
  obtain ⟨l, hl, hp⟩ := ih (fun i hi => h i (by omega))
  obtain ⟨a, ha⟩ := h m (by omega)
  refine ⟨l ++ [a], by simp [hl], fun i hi => ?_⟩
  by_cases hlt : i < l.length
  ·
   rw [List.getElem_append_left hlt]; exact hp i hlt
  ·
   obtain rfl : i = m := by simp at hi; omega
   simpa [hl] using ha
theorem open_nums {r : Reach} {b0 : Nat} {v : Value} {d : DataW H} {p : List MemPlace} (hv : Value.okWide Try.prog w r b0 49 v)
  (h : DataW.Trod enc Try.prog w 0 (fun _ => true) held 49 v d p) : ∃ (A : Option Addr) (l : List Int) (c : Nat), v = .slice A l.length c ∧ l.length ≤ maxLen ∧ l.length ≤ c ∧ Rn w A l := by
 obtain ⟨a0, len, cap, rfl⟩ := okWide_slice Try.underlying49 hv
 obtain ⟨fuel, hf⟩ := h
 rcases Go.Deep.open_slice1 Try.underlying49 (by kernel_rfl) hf with ⟨hcs, _⟩ | ⟨a, len', cap', m, n, V, D, Pl, hcs, hb, hl, hm, hmm, hx, hi⟩
 ·
  simp [Value.cells] at hcs
  obtain ⟨rfl, rfl, rfl⟩ := hcs
  exact ⟨none, [], 0, rfl, Nat.zero_le _, Nat.zero_le _, Rd.nil _ _ _⟩
 ·
  simp [Value.cells] at hcs
  obtain ⟨rfl, rfl, rfl⟩ := hcs
  simp at hmm
  subst hmm
  have each : ∀ i, i < len → ∃ z : Int, w.cell? (a.add i) = some (.int .i64 z) := by
   intro i hi'
   obtain ⟨h0, t0⟩ := hi i (by omega)
   obtain ⟨z, e0, _, wz⟩ := DataW.trod_int Try.underlying3 t0
   simp at e0
   rw [e0] at h0
   exact ⟨z, h0⟩
  obtain ⟨xs, hll, hp⟩ := choose_z each
  refine ⟨some a, xs, _, by rw [hll], by omega, by omega, ⟨icn_len xs, fun hn => ⟨a, rfl, ?_, ?_⟩⟩⟩
  ·
   have h0 := hp 0 hn
   exact World.block_lt_of_cell? w _ h0
  ·
   intro j u hu
   have hj : j < xs.length := by have := (List.getElem?_eq_some_iff.1 hu).1; rw [icn_len] at this; omega
   rw [hp j hj]
   simpa [icn, hj] using hu
end
end Go.Proofs.Ytoncapkmaeghfaa
