/- How the arguments of this seat's laws are opened for the walks. · How series, and slices of series, that come in as arguments are opened for the walks. -/
import Derived.Test.YtbdichmkgcngbaaGreatRunFxBase
import Derived.Test.YtbdichmkgcngbaaGreatRows
import Derived.ProofKit
import Derived.Lib.SmallJoins
import Derived.Deep.SlicePairs
import Derived.Carry
import Derived.ShutString
import Derived.Test.YtbdichmkgcngbaaGreatRunFxSqM
import Derived.Deep.Slices
namespace Go.Proofs.YtbdichmkgcngbaaGreat
set_option maxRecDepth 100000
open Go.ChangeShapes Go.WideShapes Go.ChangeAt Go.RowKit Go.Joins
open Go.Deep (open_slice_pairs)

theorem own_knob : ownKnob Tryz.prog.godebug = none := by kernel_rfl
theorem laid_out : laidOutB Tryz.prog = true := by kernel_rfl
theorem cells_val : Tryz.prog.cellsOf 23 = 2 := by kernel_rfl

theorem i64_lo {n : Int} (h : (Lit.int .i64 n).wf = true) : -9223372036854775808 ≤ n := by
 simp [Lit.wf, IntKind.min, IntKind.max, IntKind.signed, IntKind.bits] at h; omega
theorem i64_hi {n : Int} (h : (Lit.int .i64 n).wf = true) : n ≤ 9223372036854775807 := by
 simp [Lit.wf, IntKind.min, IntKind.max, IntKind.signed, IntKind.bits] at h; omega

section
variable {H : Type} {enc : TypeId × Value → H} {w : World} {base : Nat} {spare : Nat → Bool} {held : Bool}
/-- a number that fits an int. -/
def I64 (n : Int) : Prop := -9223372036854775808 ≤ n ∧ n ≤ 9223372036854775807
theorem open_val {r : Reach} {b0 : Nat} {v : Value} {d : DataW H} {p : List MemPlace} (hv : Value.okWide Tryz.prog w r b0 23 v)
  (h : DataW.Trod enc Tryz.prog w base spare held 23 v d p) : ∃ a : Vl, v = .agg #[.bool a.ok, .int .i64 a.n] ∧ I64 a.n := by
 obtain ⟨c0, c1, y0, y1, m, rfl, rfl, rfl, hy0, hy1⟩ := open_agg2 Tryz.underlying23 (by kernel_rfl) cells_val hv h
 obtain ⟨ok, e0, rfl⟩ := DataW.trod_bool Tryz.underlying4 hy0
 obtain ⟨n, e1, rfl, wn⟩ := DataW.trod_int Tryz.underlying3 hy1
 simp at e0 e1
 subst e0 e1
 exact ⟨⟨ok, n⟩, rfl, i64_lo wn, i64_hi wn⟩

theorem choose_vl {m : Nat} {P : Nat → Vl → Prop} (h : ∀ i, i < m → ∃ a, P i a) : ∃ l : List Vl, l.length = m ∧ ∀ i (hi : i < l.length), P i l[i] := by
 induction m with
 | zero => exact ⟨[], rfl, fun i hi => absurd hi (by simp)⟩
 | succ m ih =>
  obtain ⟨l, hl, hp⟩ := ih (fun i hi => h i (by omega))
  obtain ⟨a, ha⟩ := h m (by omega)
  refine ⟨l ++ [a], by simp [hl], fun i hi => ?_⟩
  by_cases hlt : i < l.length
  ·
   rw [List.getElem_append_left hlt]; exact hp i hlt
  ·
   obtain rfl : i = m := by simp at hi; omega
   simpa [hl] using ha

theorem vflat_at (l : List Vl) (j : Nat) (u : Value) (h : (vcells l)[j]? = some u) : ∃ k, ∃ hk : k < l.length, (j = k * 2 ∧ u = .bool l[k].ok) ∨ (j = k * 2 + 1 ∧ u = .int .i64 l[k].n) := by
 have hj : j < (vcells l).length := (List.getElem?_eq_some_iff.1 h).1
 rw [vcells_length] at hj
 have hk : j / 2 < l.length := by omega
 obtain ⟨e0, e1⟩ := vcells_at l (j / 2) hk
 refine ⟨j / 2, hk, ?_⟩
 rcases Nat.mod_two_eq_zero_or_one j with hm | hm
 ·
  have ej : j = j / 2 * 2 := by omega
  rw [← ej, h] at e0
  exact .inl ⟨ej, by simpa using e0⟩
 ·
  have ej : j = j / 2 * 2 + 1 := by omega
  rw [← ej, h] at e1
  exact .inr ⟨ej, by simpa using e1⟩

/-- a slice of values that came in. -/
theorem open_vals {r : Reach} {b0 : Nat} {v : Value} {d : DataW H} {p : List MemPlace} (hv : Value.okWide Tryz.prog w r b0 28 v)
  (h : DataW.Trod enc Tryz.prog w 0 (fun _ => true) held 28 v d p) : ∃ (A : Option Addr) (l : List Vl) (c : Nat), v = .slice A l.length c ∧ l.length ≤ maxLen ∧ l.length ≤ c ∧ Rv w A l ∧ ∀ x ∈ l, I64 x.n := by
 obtain ⟨a0, len, cap, rfl⟩ := okWide_slice Tryz.underlying28 hv
 obtain ⟨fuel, hf⟩ := h
 rcases open_slice_pairs Tryz.underlying28 Tryz.underlying23 cells_val rfl rfl (by kernel_rfl) (by kernel_rfl) hf with ⟨hcs, _⟩ | ⟨a, len', cap', m, n, V0, V1, D0, D1, P0, P1, hcs, hb, hl, hm, hmm, hx, hi⟩
 ·
  simp [Value.cells] at hcs
  obtain ⟨rfl, rfl, rfl⟩ := hcs
  exact ⟨none, [], 0, rfl, Nat.zero_le _, Nat.zero_le _, Rv.nil _ _, fun x hx => by simp at hx⟩
 ·
  simp [Value.cells] at hcs
  obtain ⟨rfl, rfl, rfl⟩ := hcs
  simp at hmm
  subst hmm
  have each : ∀ i, i < len → ∃ x : Vl, (w.cell? (a.add (i * 2)) = some (.bool x.ok) ∧ w.cell? (a.add (i * 2 + 1)) = some (.int .i64 x.n)) ∧ I64 x.n := by
   intro i hi'
   obtain ⟨h0, h1, t0, t1⟩ := hi i (by omega)
   obtain ⟨ok, e0, _⟩ := DataW.trod_bool Tryz.underlying4 t0
   obtain ⟨z, e1, _, wz⟩ := DataW.trod_int Tryz.underlying3 t1
   simp at e0 e1
   rw [e0] at h0
   rw [e1] at h1
   exact ⟨⟨ok, z⟩, ⟨h0, h1⟩, i64_lo wz, i64_hi wz⟩
  obtain ⟨l, hll, hp⟩ := choose_vl each
  refine ⟨some a, l, _, by rw [hll], by omega, by omega, ⟨vcells_length l, fun hn => ⟨a, rfl, ?_, ?_⟩⟩, ?_⟩
  ·
   have h0 := (hp 0 hn).1.1
   rw [Nat.zero_mul] at h0
   exact World.block_lt_of_cell? w _ h0
  ·
   intro j u hu
   obtain ⟨k, hk, ⟨rfl, rfl⟩ | ⟨rfl, rfl⟩⟩ := vflat_at l j u hu
   ·
    exact (hp k hk).1.1
   ·
    exact (hp k hk).1.2
  ·
   intro x hx
   obtain ⟨i, hi, rfl⟩ := List.getElem_of_mem hx
   exact (hp i hi).2
end
end Go.Proofs.YtbdichmkgcngbaaGreat
namespace Go.Proofs.YtbdichmkgcngbaaGreat
set_option linter.unusedVariables false
set_option linter.unusedSimpArgs false
set_option maxRecDepth 100000
open Go.ChangeShapes Go.WideShapes Go.ChangeAt Go.RowKit Go.Joins

theorem cells_series : Tryz.prog.cellsOf 30 = 5 := by kernel_rfl
section
variable {H : Type} {enc : TypeId × Value → H} {w : World} {held : Bool}
/-- what lies at a series that came in. -/
def Fine (w : World) (x : Sq) : Prop := x.s.vals.length ≤ x.c ∧ Rv w x.A x.s.vals

theorem vals_cs {n : Nat} {cs : List Value} {x : DataW H × List MemPlace} (hf : DataW.trod enc Tryz.prog w 0 (fun _ => true) held n 28 cs = some x) :
  ∃ (A : Option Addr) (l : List Vl) (c : Nat), cs = [.slice A l.length c] ∧ l.length ≤ c ∧ Rv w A l := by
 rcases Go.Deep.open_slice_pairs Tryz.underlying28 Tryz.underlying23 cells_val rfl rfl (by kernel_rfl) (by kernel_rfl) hf with ⟨hcs, _⟩ | ⟨a, len', cap', m, n, V0, V1, D0, D1, P0, P1, hcs, hb, hl, hm, hmm, hx, hi⟩
 ·
  exact ⟨none, [], 0, hcs, Nat.zero_le _, Rv.nil _ _⟩
 ·
  simp at hmm
  subst hmm
  have each : ∀ i, i < len' → ∃ x : Vl, (w.cell? (a.add (i * 2)) = some (.bool x.ok) ∧ w.cell? (a.add (i * 2 + 1)) = some (.int .i64 x.n)) := by
   intro i hi'
   obtain ⟨h0, h1, t0, t1⟩ := hi i (by omega)
   obtain ⟨ok, e0, _⟩ := DataW.trod_bool Tryz.underlying4 t0
   obtain ⟨z, e1, _, wz⟩ := DataW.trod_int Tryz.underlying3 t1
   simp at e0 e1
   rw [e0] at h0
   rw [e1] at h1
   exact ⟨⟨ok, z⟩, h0, h1⟩
  obtain ⟨l, hll, hp⟩ := choose_vl each
  refine ⟨some a, l, _, by rw [hll]; exact hcs, by omega, ⟨vcells_length l, fun hn => ⟨a, rfl, ?_, ?_⟩⟩⟩
  ·
   have h0 := (hp 0 hn).1
   rw [Nat.zero_mul] at h0
   exact World.block_lt_of_cell? w _ h0
  ·
   intro j u hu
   obtain ⟨k, hk, ⟨rfl, rfl⟩ | ⟨rfl, rfl⟩⟩ := vflat_at l j u hu
   ·
    exact (hp k hk).1
   ·
    exact (hp k hk).2
theorem series_cs {n : Nat} {cs : List Value} {x : DataW H × List MemPlace} (hf : DataW.trod enc Tryz.prog w 0 (fun _ => true) held n 30 cs = some x) :
  ∃ q : Sq, cs = [.string q.s.name, .int .i64 q.s.start, .int .i64 q.s.step, .slice q.A q.s.vals.length q.c, .int .i64 q.s.cons] ∧ Fine w q := by
 obtain ⟨xs, k, _, _, hl, hlen, hi⟩ := DataW.trod_struct Tryz.underlying30 hf
 rw [cells_series] at hl
 match cs, hl, xs, hlen with
 | [v0, v1, v2, v3, v4], _, [y0, y1, y2, y3, y4], _ =>
  have g0 := hi 0 _ rfl
  have g1 := hi 1 _ rfl
  have g2 := hi 2 _ rfl
  have g3 := hi 3 _ rfl
  have g4 := hi 4 _ rfl
  have k9 : Tryz.prog.cellsOf 9 = 1 := by kernel_rfl
  have k3 : Tryz.prog.cellsOf 3 = 1 := by kernel_rfl
  have k22 : Tryz.prog.cellsOf 28 = 1 := by kernel_rfl
  simp [k9, k3, k22] at g0 g1 g2 g3 g4
  obtain ⟨nm, e0, _, _⟩ := DataW.trod_string Tryz.underlying9 g0
  obtain ⟨st, e1, _, _⟩ := DataW.trod_int Tryz.underlying3 g1
  obtain ⟨sp, e2, _, _⟩ := DataW.trod_int Tryz.underlying3 g2
  obtain ⟨A, l, c, e3, hc, hr⟩ := vals_cs g3
  obtain ⟨cn, e4, _, _⟩ := DataW.trod_int Tryz.underlying3 g4
  simp at e0 e1 e2 e3 e4
  subst e0 e1 e2 e3 e4
  exact ⟨⟨⟨nm, st, sp, l, cn⟩, A, c⟩, rfl, hc, hr⟩
theorem open_series {r : Reach} {b0 : Nat} {v : Value} {d : DataW H} {p : List MemPlace} (hv : Value.okWide Tryz.prog w r b0 30 v)
  (h : DataW.Trod enc Tryz.prog w 0 (fun _ => true) held 30 v d p) : ∃ q : Sq, v = .agg #[.string q.s.name, .int .i64 q.s.start, .int .i64 q.s.step, .slice q.A q.s.vals.length q.c, .int .i64 q.s.cons] ∧ Fine w q := by
 obtain ⟨cs, rfl, _⟩ := okWide_struct Tryz.underlying30 hv
 obtain ⟨fuel, hf⟩ := h
 obtain ⟨q, hq, hF⟩ := series_cs hf
 refine ⟨q, ?_, hF⟩
 congr 1
 have e : cs.toList = [.string q.s.name, .int .i64 q.s.start, .int .i64 q.s.step, .slice q.A q.s.vals.length q.c, .int .i64 q.s.cons] := by simpa [Value.cells] using hq
 cases cs
 simp at e
 rw [e]
theorem choose_sq {m : Nat} {P : Nat → Sq → Prop} (h : ∀ i, i < m → ∃ a, P i a) : ∃ l : List Sq, l.length = m ∧ ∀ i (hi : i < l.length), P i l[i] := by
 induction m with
 | zero => exact ⟨[], rfl, fun i hi => absurd hi (by simp)⟩
 | succ m ih =>
  obtain ⟨l, hl, hp⟩ := ih (fun i hi => h i (by omega))
  obtain ⟨a, ha⟩ := h m (by omega)
  refine ⟨l ++ [a], by simp [hl], fun i hi => ?_⟩
  by_cases hlt : i < l.length
  ·
   rw [List.getElem_append_left hlt]; exact hp i hlt
  ·
   obtain rfl : i = m := by simp at hi; omega
   simpa [hl] using ha
theorem sflat_at (l : List Sq) (j : Nat) (u : Value) (h : (scells l)[j]? = some u) : ∃ k, ∃ hk : k < l.length, ∃ i, i < 5 ∧ j = k * 5 + i ∧ [Value.string l[k].s.name, .int .i64 l[k].s.start, .int .i64 l[k].s.step, .slice l[k].A l[k].s.vals.length l[k].c, .int .i64 l[k].s.cons][i]? = some u := by
 have hj : j < (scells l).length := (List.getElem?_eq_some_iff.1 h).1
 rw [scells_length] at hj
 have hk : j / 5 < l.length := by omega
 obtain ⟨s0, s1, s2, s3, s4⟩ := scells_at l (j / 5) hk
 refine ⟨j / 5, hk, j % 5, Nat.mod_lt _ (by decide), by omega, ?_⟩
 have hd : j = j / 5 * 5 + j % 5 := by omega
 rw [← h]
 rcases (show j % 5 = 0 ∨ j % 5 = 1 ∨ j % 5 = 2 ∨ j % 5 = 3 ∨ j % 5 = 4 by omega) with e | e | e | e | e
 all_goals
  rw [e] at hd ⊢
  conv => rhs; rw [hd]
  first | exact s0.symm | exact s1.symm | exact s2.symm | exact s3.symm | exact s4.symm
theorem open_serieses {r : Reach} {b0 : Nat} {v : Value} {d : DataW H} {p : List MemPlace} (hv : Value.okWide Tryz.prog w r b0 24 v)
  (h : DataW.Trod enc Tryz.prog w 0 (fun _ => true) held 24 v d p) : ∃ (A : Option Addr) (L : List Sq) (c : Nat), v = .slice A L.length c ∧ L.length ≤ c ∧ Rl w A L ∧ ∀ x ∈ L, Fine w x := by
 obtain ⟨a0, len, cap, rfl⟩ := okWide_slice Tryz.underlying24 hv
 obtain ⟨fuel, hf⟩ := h
 rcases Go.Deep.open_slice Tryz.underlying24 hf with ⟨hcs, _⟩ | ⟨a, len', cap', m, n, D, Pl, hcs, hb, hl, hm, hmm, hx, hi⟩
 ·
  simp [Value.cells] at hcs
  obtain ⟨rfl, rfl, rfl⟩ := hcs
  exact ⟨none, [], 0, rfl, Nat.zero_le _, Rd.nil _ _ _, fun x hx => by simp at hx⟩
 ·
  simp [Value.cells] at hcs
  obtain ⟨rfl, rfl, rfl⟩ := hcs
  simp at hmm
  subst hmm
  have each : ∀ i, i < len → ∃ q : Sq, (∀ j u, [Value.string q.s.name, .int .i64 q.s.start, .int .i64 q.s.step, .slice q.A q.s.vals.length q.c, .int .i64 q.s.cons][j]? = some u → w.cell? (a.add (i * 5 + j)) = some u) ∧ Fine w q := by
   intro i hi'
   obtain ⟨cs', h1, h2⟩ := hi i (by omega)
   rw [cells_series] at h1
   obtain ⟨_, hlen, hcell⟩ := World.cells?_some h1
   obtain ⟨q, hq, hF⟩ := series_cs h2
   refine ⟨q, fun j u hu => ?_, hF⟩
   have hj : j < 5 := by have := (List.getElem?_eq_some_iff.1 hu).1; simpa using this
   have := hcell j hj
   rw [add_two] at this
   rw [this, hq]; exact hu
  obtain ⟨L, hll, hp⟩ := choose_sq each
  refine ⟨some a, L, _, by rw [hll], by omega, ⟨scells_length L, fun hn => ⟨a, rfl, ?_, ?_⟩⟩, ?_⟩
  ·
   have h0 := (hp 0 hn).1 0 _ rfl
   have e : (a.add (0 * 5 + 0)).block = a.block := add_blk _ _
   rw [← e]
   exact World.block_lt_of_cell? w _ h0
  ·
   intro j u hu
   obtain ⟨k, hk, i, _, rfl, hu'⟩ := sflat_at L j u hu
   exact (hp k hk).1 i u hu'
  ·
   intro x hx
   obtain ⟨i, hi, rfl⟩ := List.getElem_of_mem hx
   exact (hp i hi).2
end
end Go.Proofs.YtbdichmkgcngbaaGreat
