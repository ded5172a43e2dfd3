/- How the arguments of this seat's laws are opened for the walks. · How headers, points and rows of points that come in as arguments are opened for the walks. -/
import Derived.Test.YtoncapkmaeghfaaRunFxBase
import Derived.Test.YtoncapkmaeghfaaRows
import Derived.ProofKit
import Derived.Lib.SmallJoins
import Derived.Deep.SlicePairs
import Derived.Carry
import Derived.ShutString
import Derived.Deep.Slices
namespace Go.Proofs.Ytoncapkmaeghfaa
set_option maxRecDepth 100000
open Go.ChangeShapes Go.WideShapes Go.ChangeAt Go.RowKit Go.Joins
open Go.Deep (open_slice_pairs)

theorem own_knob : ownKnob Try.prog.godebug = none := by kernel_rfl
theorem laid_out : laidOutB Try.prog = true := by kernel_rfl
theorem cells_val : Try.prog.cellsOf 47 = 2 := by kernel_rfl

theorem i64_lo {n : Int} (h : (Lit.int .i64 n).wf = true) : -9223372036854775808 ≤ n := by
 simp [Lit.wf, IntKind.min, IntKind.max, IntKind.signed, IntKind.bits] at h; omega
theorem i64_hi {n : Int} (h : (Lit.int .i64 n).wf = true) : n ≤ 9223372036854775807 := by
 simp [Lit.wf, IntKind.min, IntKind.max, IntKind.signed, IntKind.bits] at h; omega

section
variable {H : Type} {enc : TypeId × Value → H} {w : World} {base : Nat} {spare : Nat → Bool} {held : Bool}
/-- a number that fits an int. -/
def I64 (n : Int) : Prop := -9223372036854775808 ≤ n ∧ n ≤ 9223372036854775807
theorem open_val {r : Reach} {b0 : Nat} {v : Value} {d : DataW H} {p : List MemPlace} (hv : Value.okWide Try.prog w r b0 47 v)
  (h : DataW.Trod enc Try.prog w base spare held 47 v d p) : ∃ a : Vl, v = .agg #[.bool a.ok, .int .i64 a.n] ∧ I64 a.n := by
 obtain ⟨c0, c1, y0, y1, m, rfl, rfl, rfl, hy0, hy1⟩ := open_agg2 Try.underlying47 (by kernel_rfl) cells_val hv h
 obtain ⟨ok, e0, rfl⟩ := DataW.trod_bool Try.underlying4 hy0
 obtain ⟨n, e1, rfl, wn⟩ := DataW.trod_int Try.underlying3 hy1
 simp at e0 e1
 subst e0 e1
 exact ⟨⟨ok, n⟩, rfl, i64_lo wn, i64_hi wn⟩

theorem choose_vl {m : Nat} {P : Nat → Vl → Prop} (h : ∀ i, i < m → ∃ a, P i a) : ∃ l : List Vl, l.length = m ∧ ∀ i (hi : i < l.length), P i l[i] := by
 induction m with
 | zero => exact ⟨[], rfl, fun i hi => absurd hi (by simp)⟩
 | succ m ih =>
  obtain ⟨l, hl, hp⟩ := ih (fun i hi => h i (by omega))
  obtain ⟨a, ha⟩ := h m (by omega)
  refine ⟨l ++ [a], by simp [hl], fun i hi => ?_⟩
  by_cases hlt : i < l.length
  ·
   rw [List.getElem_append_left hlt]; exact hp i hlt
  ·
   obtain rfl : i = m := by simp at hi; omega
   simpa [hl] using ha

theorem vflat_at (l : List Vl) (j : Nat) (u : Value) (h : (vcells l)[j]? = some u) : ∃ k, ∃ hk : k < l.length, (j = k * 2 ∧ u = .bool l[k].ok) ∨ (j = k * 2 + 1 ∧ u = .int .i64 l[k].n) := by
 have hj : j < (vcells l).length := (List.getElem?_eq_some_iff.1 h).1
 rw [vcells_length] at hj
 have hk : j / 2 < l.length := by omega
 obtain ⟨e0, e1⟩ := vcells_at l (j / 2) hk
 refine ⟨j / 2, hk, ?_⟩
 rcases Nat.mod_two_eq_zero_or_one j with hm | hm
 ·
  have ej : j = j / 2 * 2 := by omega
  rw [← ej, h] at e0
  exact .inl ⟨ej, by simpa using e0⟩
 ·
  have ej : j = j / 2 * 2 + 1 := by omega
  rw [← ej, h] at e1
  exact .inr ⟨ej, by simpa using e1⟩

/-- a slice of values that came in. -/
theorem open_vals {r : Reach} {b0 : Nat} {v : Value} {d : DataW H} {p : List MemPlace} (hv : Value.okWide Try.prog w r b0 41 v)
  (h : DataW.Trod enc Try.prog w 0 (fun _ => true) held 41 v d p) : ∃ (A : Option Addr) (l : List Vl) (c : Nat), v = .slice A l.length c ∧ l.length ≤ maxLen ∧ l.length ≤ c ∧ Rv w A l ∧ ∀ x ∈ l, I64 x.n := by
 obtain ⟨a0, len, cap, rfl⟩ := okWide_slice Try.underlying41 hv
 obtain ⟨fuel, hf⟩ := h
 rcases open_slice_pairs Try.underlying41 Try.underlying47 cells_val rfl rfl (by kernel_rfl) (by kernel_rfl) hf with ⟨hcs, _⟩ | ⟨a, len', cap', m, n, V0, V1, D0, D1, P0, P1, hcs, hb, hl, hm, hmm, hx, hi⟩
 ·
  simp [Value.cells] at hcs
  obtain ⟨rfl, rfl, rfl⟩ := hcs
  exact ⟨none, [], 0, rfl, Nat.zero_le _, Nat.zero_le _, Rv.nil _ _, fun x hx => by simp at hx⟩
 ·
  simp [Value.cells] at hcs
  obtain ⟨rfl, rfl, rfl⟩ := hcs
  simp at hmm
  subst hmm
  have each : ∀ i, i < len → ∃ x : Vl, (w.cell? (a.add (i * 2)) = some (.bool x.ok) ∧ w.cell? (a.add (i * 2 + 1)) = some (.int .i64 x.n)) ∧ I64 x.n := by
   intro i hi'
   obtain ⟨h0, h1, t0, t1⟩ := hi i (by omega)
   obtain ⟨ok, e0, _⟩ := DataW.trod_bool Try.underlying4 t0
   obtain ⟨z, e1, _, wz⟩ := DataW.trod_int Try.underlying3 t1
   simp at e0 e1
   rw [e0] at h0
   rw [e1] at h1
   exact ⟨⟨ok, z⟩, ⟨h0, h1⟩, i64_lo wz, i64_hi wz⟩
  obtain ⟨l, hll, hp⟩ := choose_vl each
  refine ⟨some a, l, _, by rw [hll], by omega, by omega, ⟨vcells_length l, fun hn => ⟨a, rfl, ?_, ?_⟩⟩, ?_⟩
  ·
   have h0 := (hp 0 hn).1.1
   rw [Nat.zero_mul] at h0
   exact World.block_lt_of_cell? w _ h0
  ·
   intro j u hu
   obtain ⟨k, hk, ⟨rfl, rfl⟩ | ⟨rfl, rfl⟩⟩ := vflat_at l j u hu
   ·
    exact (hp k hk).1.1
   ·
    exact (hp k hk).1.2
  ·
   intro x hx
   obtain ⟨i, hi, rfl⟩ := List.getElem_of_mem hx
   exact (hp i hi).2
end
end Go.Proofs.Ytoncapkmaeghfaa
namespace Go.Proofs.Ytoncapkmaeghfaa
set_option linter.unusedVariables false
set_option linter.unusedSimpArgs false
set_option maxRecDepth 100000
open Go.ChangeShapes Go.WideShapes Go.ChangeAt Go.RowKit Go.Joins

theorem cells_header : Try.prog.cellsOf 24 = 3 := by kernel_rfl
theorem cells_arch : Try.prog.cellsOf 30 = 2 := by kernel_rfl
/-- at A there is the row l of pairs of numbers, wherever it lies. -/
def Rg (w : World) (A : Option Addr) (l : List (Int × Int)) : Prop :=
 0 < l.length → ∃ ad : Addr, A = some ad ∧ ad.block < w.heap.size ∧ ∀ k (h : k < l.length), w.cell? (ad.add (k * 2)) = some (.int .i64 l[k].1) ∧ w.cell? ⟨(ad.add (k * 2)).block, (ad.add (k * 2)).off + 1, none⟩ = some (.int .i64 l[k].2)
section
variable {H : Type} {enc : TypeId × Value → H} {w : World} {held : Bool}
theorem choose_pr {m : Nat} {P : Nat → Int × Int → Prop} (h : ∀ i, i < m → ∃ a, P i a) : ∃ l : List (Int × Int), l.length = m ∧ ∀ i (hi : i < l.length), P i l[i] := by
 induction m with
 | zero => exact ⟨[], rfl, fun i hi => absurd hi (by simp)⟩
 | succ m ih =>
  obtain ⟨l, hl, hp⟩ := ih (fun i hi => h i (by omega))
  obtain ⟨a, ha⟩ := h m (by omega)
  refine ⟨l ++ [a], by simp [hl], fun i hi => ?_⟩
  by_cases hlt : i < l.length
  ·
   rw [List.getElem_append_left hlt]; exact hp i hlt
  ·
   obtain rfl : i = m := by simp at hi; omega
   simpa [hl] using ha
theorem pairs_cs {n : Nat} {t e : TypeId} {f0 f1 : Field} {cs : List Value} {x : DataW H × List MemPlace} (ht : Try.prog.underlying t = some (.slice e)) (he : Try.prog.underlying e = some (.struct #[f0, f1])) (ce : Try.prog.cellsOf e = 2) (o0 : f0.offset = 0) (o1 : f1.offset = 1) (t0 : f0.type = 3) (t1 : f1.type = 3)
  (hf : DataW.trod enc Try.prog w 0 (fun _ => true) held n t cs = some x) : ∃ (A : Option Addr) (l : List (Int × Int)) (c : Nat), cs = [.slice A l.length c] ∧ l.length ≤ c ∧ c ≤ maxLen ∧ Rg w A l := by
 rcases Go.Deep.open_slice_pairs ht he ce o0 o1 (by rw [t0]; kernel_rfl) (by rw [t1]; kernel_rfl) hf with ⟨hcs, _⟩ | ⟨a, len', cap', m, n, V0, V1, D0, D1, P0, P1, hcs, hb, hl, hm, hmm, hx, hi⟩
 ·
  exact ⟨none, [], 0, hcs, Nat.zero_le _, Nat.zero_le _, fun h => absurd h (Nat.lt_irrefl _)⟩
 ·
  simp at hmm
  subst hmm
  have each : ∀ i, i < len' → ∃ x : Int × Int, (w.cell? (a.add (i * 2)) = some (.int .i64 x.1) ∧ w.cell? (a.add (i * 2 + 1)) = some (.int .i64 x.2)) := by
   intro i hi'
   obtain ⟨h0, h1, k0, k1⟩ := hi i (by omega)
   rw [t0] at k0
   rw [t1] at k1
   obtain ⟨y, e0, _, _⟩ := DataW.trod_int Try.underlying3 k0
   obtain ⟨z, e1, _, _⟩ := DataW.trod_int Try.underlying3 k1
   simp at e0 e1
   rw [e0] at h0
   rw [e1] at h1
   exact ⟨(y, z), h0, h1⟩
  obtain ⟨l, hll, hp⟩ := choose_pr each
  refine ⟨some a, l, _, by rw [hll]; exact hcs, by omega, hm, fun hn => ⟨a, rfl, ?_, fun k hk => ⟨(hp k hk).1, ?_⟩⟩⟩
  ·
   have h0 := (hp 0 hn).1
   rw [Nat.zero_mul] at h0
   exact World.block_lt_of_cell? w _ h0
  ·
   have := (hp k hk).2
   rw [← this]
   exact (congrArg w.cell? (add_next a (k * 2) 0)).symm
theorem open_header {r : Reach} {b0 : Nat} {v : Value} {d : DataW H} {p : List MemPlace} (hv : Value.okWide Try.prog w r b0 24 v)
  (h : DataW.Trod enc Try.prog w 0 (fun _ => true) held 24 v d p) : ∃ (ag xf : Int) (A : Option Addr) (l : List (Int × Int)) (c : Nat), v = .agg #[.int .i64 ag, .int .i64 xf, .slice A l.length c] ∧ l.length ≤ c ∧ c ≤ maxLen ∧ Rg w A l := by
 obtain ⟨cs, rfl, _⟩ := okWide_struct Try.underlying24 hv
 obtain ⟨fuel, hf⟩ := h
 obtain ⟨xs, k, _, _, hl, hlen, hi⟩ := DataW.trod_struct Try.underlying24 hf
 rw [cells_header] at hl
 have e : ∃ v0 v1 v2, cs = #[v0, v1, v2] := by
  obtain ⟨L⟩ := cs
  match L, hl with
  | [v0, v1, v2], _ => exact ⟨v0, v1, v2, rfl⟩
 obtain ⟨v0, v1, v2, rfl⟩ := e
 match xs, hlen with
 | [y0, y1, y2], _ =>
  have g0 := hi 0 _ rfl
  have g1 := hi 1 _ rfl
  have g2 := hi 2 _ rfl
  have k3 : Try.prog.cellsOf 3 = 1 := by kernel_rfl
  have k22 : Try.prog.cellsOf 22 = 1 := by kernel_rfl
  simp [Value.cells, k3, k22] at g0 g1 g2
  obtain ⟨ag, e0, _, _⟩ := DataW.trod_int Try.underlying3 g0
  obtain ⟨xf, e1, _, _⟩ := DataW.trod_int Try.underlying3 g1
  obtain ⟨A, l, c, e2, hc, hm, hr⟩ := pairs_cs Try.underlying22 Try.underlying30 cells_arch rfl rfl rfl rfl g2
  simp at e0 e1 e2
  subst e0 e1 e2
  exact ⟨ag, xf, A, l, c, rfl, hc, hm, hr⟩
end
end Go.Proofs.Ytoncapkmaeghfaa
