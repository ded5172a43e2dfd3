/- A region that draws its order and ends in one operation (number z: a store) for which all others wait: what its loads read (S) need not hold behind that last one. Derived/OrdersHeld.lean's law in that make. No program in sight. · What Fit's walk stands on: append at one operation of a drawn region; the cells that a series' making holds. No program in sight. · The contract of series.Fit: a series at other times. · Contracts of Own: a series in memory of its own, of the program's package series and of the reference. · The contract of series.Fit: a series at other times. · The contracts of series.Fit (whole) and of series.Shrink. · The contract of the law's known: what is shrunk. -/
import Derived.OrdersHeld
import Derived.Deep.RegionHeld
import Derived.StillTail
import Derived.Test.YtbdichmkgcngbaaGreatRunFpFirst
import Derived.Test.YtbdichmkgcngbaaGreatRunAgOf
import Derived.Test.YtbdichmkgcngbaaGreatRunSrIs
import Derived.BigQuiet
namespace Go.Proofs.YtbdichmkgcngbaaGreat
set_option linter.unusedVariables false
set_option linter.unusedSimpArgs false
open Go

section
variable {P : Program} {ops : Array Oper} {Q : Exit → Act → World → Prop} {md : Region.Mode} {S : World → Prop} {z : Nat}

def wpAnyZ (P : Program) (md : Region.Mode) (ops : Array Oper) (Q : Exit → Act → World → Prop) (S : World → Prop) (z : Nat) : Nat → Array Bool → Act → World → Prop
 | 0, listed, a, w => Region.ready md ops listed = [] ∧ Q .normal a w
 | fuel + 1, listed, a, w =>
  (Region.ready md ops listed = [] → Q .normal a w) ∧
  ∀ i ∈ Region.ready md ops listed, wpOp P ops Q i (fun a' w' => (i ≠ z → S w') ∧ wpAnyZ P md ops Q S z fuel (listed.setIfInBounds i true) a' w') a w

theorem wpAny_of_Z : ∀ (fuel : Nat) (listed : Array Bool) (a : Act) (w : World), wpAnyZ P md ops Q S z fuel listed a w → wpAny P md ops Q fuel listed a w
 | 0, _, _, _, h => h
 | fuel + 1, _, _, _, h => ⟨h.1, fun i hi => wpOp_mono (fun a' w' h' => wpAny_of_Z fuel _ a' w' h'.2) (h.2 i hi)⟩

/-- z comes last: who may come up ahead of i is not z. -/
def lastB (md : Region.Mode) (ops : Array Oper) (z : Nat) : Bool := decide (z < ops.size) && decide (ops.size ≤ z + 1) && Region.sinkB md ops z && Region.chainB md ops z
def closedB (md : Region.Mode) (ops : Array Oper) (z : Nat) (listed : Array Bool) : Bool :=
 decide (listed.size = ops.size) && ((List.range ops.size).all fun j => !listed.getD j false || ((ops[j]?).map (·.after.all fun e => !Region.binds md e || listed.getD e.on false)).getD true) && (List.range ops.size).all fun t => decide (t < z) || !listed.getD t true
theorem closed_inv {listed : Array Bool} (h : closedB md ops z listed = true) : HeadInv md ops z listed := by
 unfold closedB at h
 simp only [Bool.and_eq_true, decide_eq_true_eq] at h
 obtain ⟨⟨h0, h1⟩, h2⟩ := h
 refine ⟨h0, fun j oj hj hl e he hb => ?_, fun t ht ht' => ?_⟩
 ·
  have h3 := List.all_eq_true.1 h1 j (List.mem_range.2 (Array.getElem?_eq_some_iff.1 hj).1)
  rw [hl, hj] at h3
  simp only [Bool.not_true, Bool.false_or, Option.map_some, Option.getD_some] at h3
  have h4 := Array.all_eq_true'.1 h3 e he
  rw [hb] at h4
  simpa using h4
 ·
  have h3 := List.all_eq_true.1 h2 t (List.mem_range.2 ht')
  simp only [Bool.or_eq_true, decide_eq_true_eq, Bool.not_eq_true'] at h3
  rcases h3 with h3 | h3
  ·
   omega
  ·
   exact h3

theorem wpAnyZ_first {i : Nat} {oi : Oper} {v : Value} (hi : ops[i]? = some oi) (hiz : i < z) (hsel : ∀ (j : Nat) (o : Oper) cs b, ops[j]? = some o → o.op ≠ .select cs b)
  (hlast : lastB md ops z = true) (hQ : ∀ c a w, Q (.panic c) (a.put oi.dst v) w → Q (.panic c) a w) :
  ∀ (fuel : Nat) (listed : Array Bool) (a : Act) (w : World), HeadInv md ops z listed →
   (∀ j oj, ops[j]? = some oj → j ≠ i → listed.getD j true = false → (∀ e ∈ oj.after, Region.binds md e = true → e.on ≠ i) → oi.apart ops oj = true) →
   i ∈ Region.ready md ops listed → YieldsIf P ops S oi v a → S w →
   wpAnyZ P md ops Q S z fuel (listed.setIfInBounds i true) (a.put oi.dst v) w → wpAnyZ P md ops Q S z (fuel + 1) listed a w := by
 have hl := hlast
 unfold lastB at hl
 simp only [Bool.and_eq_true, decide_eq_true_eq] at hl
 obtain ⟨⟨⟨hzs, hze⟩, hsink⟩, hchain⟩ := hl
 intro fuel
 induction fuel with
 | zero =>
  intro listed a w _ _ hr hy hS H
  refine ⟨fun h => (by rw [h] at hr; cases hr), fun j hj => ?_⟩
  by_cases hji : j = i
  ·
   subst hji; exact hy.wpOp hi hS ⟨fun _ => hS, H⟩
  ·
   have := ready_mono hj hji
   rw [H.1] at this
   cases this
 | succ fuel ih =>
  intro listed a w inv hfree hr hy hS H
  refine ⟨fun h => (by rw [h] at hr; cases hr), fun j hj => ?_⟩
  by_cases hji : j = i
  ·
   subst hji; exact hy.wpOp hi hS ⟨fun _ => hS, H⟩
  ·
   have h1 := H.2 j (ready_mono hj hji)
   obtain ⟨hjun, oj, hoj, hall⟩ := mem_ready.1 hj
   have hiun := (mem_ready.1 hr).1
   have hjz : j < z := by
    rcases Nat.lt_or_ge j z with h | h
    ·
     exact h
    ·
     exact absurd hj (tail_waits hsink hchain hzs inv _ i rfl hiz hiun j h)
   have hnot : ∀ e ∈ oj.after, Region.binds md e = true → e.on ≠ i := fun e he hb heq => by
    have h1 := hall e he hb
    rw [heq, getD_both hiun] at h1
    cases h1
   have h2 := wpOp_putIf hoj (hfree j oj hoj hji hjun hnot) (fun cs b => hsel i oi cs b hi) (fun cs b => hsel j oj cs b hoj) hQ hy h1
   have hfree' : ∀ k ok, ops[k]? = some ok → k ≠ i → (listed.setIfInBounds j true).getD k true = false →
     (∀ e ∈ ok.after, Region.binds md e = true → e.on ≠ i) → oi.apart ops ok = true := fun k ok hk hki hun hno => by
    refine hfree k ok hk hki ?_ hno
    by_cases hjk : j = k
    ·
     subst hjk; exact hjun
    ·
     rw [getD_set_ne true hjk] at hun; exact hun
   refine wpOp_mono (fun a' w' h3 => ⟨h3.2.1, ih (listed.setIfInBounds j true) a' w' (inv.set hj hjz) hfree' (ready_mono hr (Ne.symm hji)) h3.1 (h3.2.1 (by omega)) ?_⟩) h2
   rw [Array.setIfInBounds_comm _ _ hji]
   exact h3.2.2

/-- Take number i first. -/
theorem wpAnyZ_take {i : Nat} {oi : Oper} {v : Value} {fuel : Nat} {listed : Array Bool} {a : Act} {w : World} (hi : ops[i]? = some oi) (hlast : (decide (i < z) && lastB md ops z && closedB md ops z listed && Region.noSelect ops && Region.free md ops listed i && (Region.ready md ops listed).contains i) = true)
  (hQ : ∀ c a w, Q (.panic c) (a.put oi.dst v) w → Q (.panic c) a w) (hw : Region.wanted oi (yielded ops a.tmps) = true) (hy : ∀ w, S w → (execOp a.eval oi).run P w = .ok (.value v) w) (hS : S w)
  (h : wpAnyZ P md ops Q S z fuel (listed.setIfInBounds i true) (a.put oi.dst v) w) : wpAnyZ P md ops Q S z (fuel + 1) listed a w := by
 simp only [Bool.and_eq_true, decide_eq_true_eq] at hlast
 obtain ⟨⟨⟨⟨⟨h0, h1⟩, h2⟩, h3⟩, h4⟩, h5⟩ := hlast
 exact wpAnyZ_first hi h0 (Region.noSelect_spec h3) h1 hQ fuel listed a w (closed_inv h2) (Region.free_spec hi h4) (by simpa using h5) (Or.inl ⟨hw, hy⟩) hS h

def AllReadyZ (P : Program) (md : Region.Mode) (ops : Array Oper) (Q : Exit → Act → World → Prop) (S : World → Prop) (z fuel : Nat) (listed : Array Bool) (a : Act) (w : World) (rs : List Nat) : Prop :=
 ∀ i ∈ rs, wpOp P ops Q i (fun a' w' => (i ≠ z → S w') ∧ wpAnyZ P md ops Q S z fuel (listed.setIfInBounds i true) a' w') a w
theorem AllReadyZ.nil {fuel : Nat} {listed : Array Bool} {a : Act} {w : World} : AllReadyZ P md ops Q S z fuel listed a w [] := fun _ h => by cases h
theorem AllReadyZ.cons {fuel : Nat} {listed : Array Bool} {a : Act} {w : World} {i : Nat} {o : Oper} {rs : List Nat} (ho : ops[i]? = some o) (hw : Region.wanted o (yielded ops a.tmps) = true)
  (h : ∀ K' : Act → World → Prop, Shut (∀ a w, (i ≠ z → S w) → ((i ≠ z → S w) → wpAnyZ P md ops Q S z fuel (listed.setIfInBounds i true) a w) → K' a w) → Oper.wp P o a w K' Q)
  (hs : AllReadyZ P md ops Q S z fuel listed a w rs) : AllReadyZ P md ops Q S z fuel listed a w (i :: rs) := fun j hj => by
 rcases List.mem_cons.1 hj with rfl | hj
 ·
  exact wpOp_step ho (fun K' hK => by rw [if_pos hw]; exact h K' (fun a w hS hW => hK a w ⟨hS, hW hS⟩))
 ·
  exact hs j hj
theorem wpAnyZ_ready {rs : List Nat} {fuel : Nat} {listed : Array Bool} {a : Act} {w : World} (hr : Region.ready md ops listed = rs) (hne : rs ≠ [])
  (h : AllReadyZ P md ops Q S z fuel listed a w rs) : wpAnyZ P md ops Q S z (fuel + 1) listed a w :=
 ⟨fun h0 => absurd (hr ▸ h0) hne, hr ▸ h⟩
theorem wpAnyZ_done {listed : Array Bool} {a : Act} {w : World} (hr : Region.ready md ops listed = []) (h : Q .normal a w) : ∀ fuel, wpAnyZ P md ops Q S z fuel listed a w
 | 0 => ⟨hr, h⟩
 | _ + 1 => ⟨fun _ => h, by rw [hr]; simp⟩
theorem wp_region_Z (z : Nat) (S : World → Prop) {id : Nat} {a : Act} {w : World} (hm : P.follows .mixedOrders = true)
  (h : wpAnyZ P .any ops Q S z ops.size (Array.replicate ops.size false) a w.drew) : (Code.region id ops true).wp P Q a w :=
 wp_region_any hm (wpAny_of_Z _ _ _ _ h)
end
end Go.Proofs.YtbdichmkgcngbaaGreat
namespace Go.Proofs.YtbdichmkgcngbaaGreat
set_option linter.unusedVariables false
set_option linter.unusedSimpArgs false
open Go.RowKit

section
variable {P : Program} {w : World}
theorem wp_append_rd {o : Oper} {a : Act} {Q : Exit → Act → World → Prop} {K : Act → World → Prop} (s x : Operand) (t : TypeId)
  (ho : o.op = .call { callee := .builtin .append, args := #[s, x], argTypes := #[t, t] })
  (base : Nat) (e : TypeId) (i : TypeInfo) (z : Value) (size bytes : Nat) (ht : P.underlying t = some (.slice e)) (hi : P.info? e = some i) (hz : i.zero = some z)
  (hsize : i.size = size) (hby : i.bytes = bytes) (hzs : z.cells.size = size) (hsz : 0 < size)
  (v : Value) (n : Nat) (xs : List Value) (hs : a.eval s = v) (hown : w.ownsRow base e size v n xs)
  (ad : Addr) (m c : Nat) (news : List Value) (hx : a.eval x = .slice (some ad) m c) (hr : Rd w size (some ad) m news) (hm : 0 < m) (h1 : ∀ u ∈ news, u.oneCell' = true)
  (h63 : n + m ≤ maxLen) (hbytes : (n + m) * bytes ≤ 140737488355328) (hbase : base ≤ w.heap.size)
  (h : ∀ v' w', w'.ownsRow base e size v' (n + m) (xs ++ news) → w.grownBy w' v.ownBlock → (v'.ownBlock = v.ownBlock ∨ v'.ownBlock = some w.heap.size) → K (a.put o.dst v') w') : Oper.wp P o a w K Q := by
 obtain ⟨ad', e', _, hc⟩ := hr.2 hm
 injection e' with e'
 subst e'
 obtain ⟨v', w', hr1, h2, h3, _, h4⟩ := run_append_own_at (P := P) w base t o.type e i z size bytes ht hi hz hsize hby hzs hsz v n xs hown ad m c news hr.1 hc h1 h63 hbytes hbase
 unfold Oper.wp execOp
 simp only [ho, resolve, invoke, builtin, Sem.run_bind, Sem.run_pure, Result.andThen_ok, List.map_toArray, List.map_cons, List.map_nil, hs, hx, hr1]
 exact h v' w' h2 h3 h4
theorem own_set {base : Nat} {e : TypeId} {size n : Nat} {v : Value} {xs : List Value} (h : w.ownsRow base e size v n xs) {p : Addr} (hp : p.block < base) (u : Value) : (w.setCell p u).ownsRow base e size v n xs := by
 obtain ⟨h1, ⟨hv, h0⟩ | ⟨g', cap, cur, hv, hb, hh, h2⟩⟩ := h
 ·
  exact ⟨h1, .inl ⟨hv, h0⟩⟩
 ·
  exact ⟨h1, .inr ⟨g', cap, cur, hv, hb, (Below.heap_setCell w p u g' (by omega)).trans hh, h2⟩⟩
end

/-- the cells of Fit's frame: the series that came in (block B0), the result (block B0 + 1), what is made (block B9). -/
def FC (s : Sr) (A : Option Addr) (c : Nat) (start step : Int) (B0 B9 : Nat) (A' : Option Addr) (k c' : Nat) (W : World) : Prop :=
 W.cell? ⟨B0, 0, none⟩ = some (.string s.name) ∧
 W.cell? ⟨B0, 1, none⟩ = some (.int .i64 s.start) ∧
 W.cell? ⟨B0, 2, none⟩ = some (.int .i64 s.step) ∧
 W.cell? ⟨B0, 3, none⟩ = some (.slice A s.vals.length c) ∧
 W.cell? ⟨B0, 4, none⟩ = some (.int .i64 s.cons) ∧
 W.cell? ⟨B0 + 1, 0, none⟩ = some (.string ⟨#[]⟩) ∧
 W.cell? ⟨B0 + 1, 1, none⟩ = some (.int .i64 0) ∧
 W.cell? ⟨B0 + 1, 2, none⟩ = some (.int .i64 0) ∧
 W.cell? ⟨B0 + 1, 3, none⟩ = some (.slice none 0 0) ∧
 W.cell? ⟨B0 + 1, 4, none⟩ = some (.int .i64 0) ∧
 W.frozen? ⟨B0 + 1, 0, none⟩ = false ∧
 W.frozen? ⟨B0 + 1, 1, none⟩ = false ∧
 W.frozen? ⟨B0 + 1, 2, none⟩ = false ∧
 W.frozen? ⟨B0 + 1, 3, none⟩ = false ∧
 W.frozen? ⟨B0 + 1, 4, none⟩ = false ∧
 W.cell? ⟨B9, 0, none⟩ = some (.string s.name) ∧
 W.cell? ⟨B9, 1, none⟩ = some (.int .i64 start) ∧
 W.cell? ⟨B9, 2, none⟩ = some (.int .i64 step) ∧
 W.cell? ⟨B9, 3, none⟩ = some ((.slice A' k c')) ∧
 W.cell? ⟨B9, 4, none⟩ = some (.int .i64 s.cons) ∧
 W.frozen? ⟨B9, 3, none⟩ = false ∧
 B9 < W.heap.size
theorem FC.below {s : Sr} {A : Option Addr} {c : Nat} {start step : Int} {B0 B9 : Nat} {A' : Option Addr} {k c' : Nat} {W W' : World} (h : FC s A c start step B0 B9 A' k c' W) (hz : B0 + 1 < B9) (g : Below (B9 + 1) W W') : FC s A c start step B0 B9 A' k c' W' := by
 obtain ⟨q0, q1, q2, q3, q4, p0, p1, p2, p3, p4, g0, g1, g2, g3, g4, o0, o1, o2, o3, o4, f3, sz⟩ := h
 have h0 : B0 < B9 + 1 := by omega
 have h1 : B0 + 1 < B9 + 1 := by omega
 have h2 : B9 < B9 + 1 := by omega
 exact ⟨(g.cell (p := ⟨B0, 0, none⟩) h0).trans q0, (g.cell (p := ⟨B0, 1, none⟩) h0).trans q1, (g.cell (p := ⟨B0, 2, none⟩) h0).trans q2, (g.cell (p := ⟨B0, 3, none⟩) h0).trans q3, (g.cell (p := ⟨B0, 4, none⟩) h0).trans q4, (g.cell (p := ⟨B0 + 1, 0, none⟩) h1).trans p0, (g.cell (p := ⟨B0 + 1, 1, none⟩) h1).trans p1, (g.cell (p := ⟨B0 + 1, 2, none⟩) h1).trans p2, (g.cell (p := ⟨B0 + 1, 3, none⟩) h1).trans p3, (g.cell (p := ⟨B0 + 1, 4, none⟩) h1).trans p4, (g.frozen (p := ⟨B0 + 1, 0, none⟩) h1).trans g0, (g.frozen (p := ⟨B0 + 1, 1, none⟩) h1).trans g1, (g.frozen (p := ⟨B0 + 1, 2, none⟩) h1).trans g2, (g.frozen (p := ⟨B0 + 1, 3, none⟩) h1).trans g3, (g.frozen (p := ⟨B0 + 1, 4, none⟩) h1).trans g4, (g.cell (p := ⟨B9, 0, none⟩) h2).trans o0, (g.cell (p := ⟨B9, 1, none⟩) h2).trans o1, (g.cell (p := ⟨B9, 2, none⟩) h2).trans o2, (g.cell (p := ⟨B9, 3, none⟩) h2).trans o3, (g.cell (p := ⟨B9, 4, none⟩) h2).trans o4, (g.frozen (p := ⟨B9, 3, none⟩) h2).trans f3, Nat.lt_of_lt_of_le sz g.size⟩
theorem FC.gr {s : Sr} {A : Option Addr} {c : Nat} {start step : Int} {B0 B9 : Nat} {A' : Option Addr} {k c' : Nat} {W W' : World} (h : FC s A c start step B0 B9 A' k c' W) (hz : B0 + 1 < B9) (g : Gr W W') : FC s A c start step B0 B9 A' k c' W' :=
 h.below hz (Below.mono g (by obtain ⟨_, _, _, _, _, _, _, _, _, _, _, _, _, _, _, _, _, _, _, _, _, sz⟩ := h; omega))
theorem FC.set {s : Sr} {A : Option Addr} {c : Nat} {start step : Int} {B0 B9 : Nat} {A' : Option Addr} {k c' : Nat} {W : World} (h : FC s A c start step B0 B9 A' k c' W) (hz : B0 + 1 < B9) (A2 : Option Addr) (k2 c2 : Nat) :
  FC s A c start step B0 B9 A2 k2 c2 (W.setCell ⟨B9, 3, none⟩ (.slice A2 k2 c2)) := by
 obtain ⟨q0, q1, q2, q3, q4, p0, p1, p2, p3, p4, g0, g1, g2, g3, g4, o0, o1, o2, o3, o4, f3, sz⟩ := h
 have n0 : B9 ≠ B0 := by omega
 have n1 : B9 ≠ B0 + 1 := by omega
 refine ⟨?_, ?_, ?_, ?_, ?_, ?_, ?_, ?_, ?_, ?_, ?_, ?_, ?_, ?_, ?_, ?_, ?_, ?_, ?_, ?_, ?_, ?_⟩
 ·
  exact (World.cell?_setCell_far W ⟨B9, 3, none⟩ ⟨B0, 0, none⟩ _ n0).trans q0
 ·
  exact (World.cell?_setCell_far W ⟨B9, 3, none⟩ ⟨B0, 1, none⟩ _ n0).trans q1
 ·
  exact (World.cell?_setCell_far W ⟨B9, 3, none⟩ ⟨B0, 2, none⟩ _ n0).trans q2
 ·
  exact (World.cell?_setCell_far W ⟨B9, 3, none⟩ ⟨B0, 3, none⟩ _ n0).trans q3
 ·
  exact (World.cell?_setCell_far W ⟨B9, 3, none⟩ ⟨B0, 4, none⟩ _ n0).trans q4
 ·
  exact (World.cell?_setCell_far W ⟨B9, 3, none⟩ ⟨B0 + 1, 0, none⟩ _ n1).trans p0
 ·
  exact (World.cell?_setCell_far W ⟨B9, 3, none⟩ ⟨B0 + 1, 1, none⟩ _ n1).trans p1
 ·
  exact (World.cell?_setCell_far W ⟨B9, 3, none⟩ ⟨B0 + 1, 2, none⟩ _ n1).trans p2
 ·
  exact (World.cell?_setCell_far W ⟨B9, 3, none⟩ ⟨B0 + 1, 3, none⟩ _ n1).trans p3
 ·
  exact (World.cell?_setCell_far W ⟨B9, 3, none⟩ ⟨B0 + 1, 4, none⟩ _ n1).trans p4
 ·
  exact (by simp : (W.setCell ⟨B9, 3, none⟩ (.slice A2 k2 c2)).frozen? ⟨B0 + 1, 0, none⟩ = W.frozen? ⟨B0 + 1, 0, none⟩).trans g0
 ·
  exact (by simp : (W.setCell ⟨B9, 3, none⟩ (.slice A2 k2 c2)).frozen? ⟨B0 + 1, 1, none⟩ = W.frozen? ⟨B0 + 1, 1, none⟩).trans g1
 ·
  exact (by simp : (W.setCell ⟨B9, 3, none⟩ (.slice A2 k2 c2)).frozen? ⟨B0 + 1, 2, none⟩ = W.frozen? ⟨B0 + 1, 2, none⟩).trans g2
 ·
  exact (by simp : (W.setCell ⟨B9, 3, none⟩ (.slice A2 k2 c2)).frozen? ⟨B0 + 1, 3, none⟩ = W.frozen? ⟨B0 + 1, 3, none⟩).trans g3
 ·
  exact (by simp : (W.setCell ⟨B9, 3, none⟩ (.slice A2 k2 c2)).frozen? ⟨B0 + 1, 4, none⟩ = W.frozen? ⟨B0 + 1, 4, none⟩).trans g4
 ·
  exact (World.cell?_setCell_other W ⟨B9, 3, none⟩ ⟨B9, 0, none⟩ _ (by simp)).trans o0
 ·
  exact (World.cell?_setCell_other W ⟨B9, 3, none⟩ ⟨B9, 1, none⟩ _ (by simp)).trans o1
 ·
  exact (World.cell?_setCell_other W ⟨B9, 3, none⟩ ⟨B9, 2, none⟩ _ (by simp)).trans o2
 ·
  go_simp
 ·
  exact (World.cell?_setCell_other W ⟨B9, 3, none⟩ ⟨B9, 4, none⟩ _ (by simp)).trans o4
 ·
  exact (by simp : (W.setCell ⟨B9, 3, none⟩ (.slice A2 k2 c2)).frozen? ⟨B9, 3, none⟩ = W.frozen? ⟨B9, 3, none⟩).trans f3
 ·
  simpa using sz
end Go.Proofs.YtbdichmkgcngbaaGreat
namespace Go.Proofs.YtbdichmkgcngbaaGreat
set_option linter.unusedVariables false
set_option linter.unusedSimpArgs false
open Go.RowKit

end Go.Proofs.YtbdichmkgcngbaaGreat
namespace Go.Proofs.YtbdichmkgcngbaaGreat
set_option linter.unusedVariables false
set_option linter.unusedSimpArgs false
open Go.RowKit

theorem own_at (B : Nat) (w : World) (hB : B = w.heap.size) (e : TypeId) (size : Nat) : (w.alloc (.cells #[] e)).ownsRow B e size (.slice (some ⟨B, 0, none⟩) 0 0) 0 [] := by
 subst hB; exact own_empty w _ (Nat.le_refl _) e size

set_option maxRecDepth 100000 in
set_option maxHeartbeats 1600000 in
theorem own_any (s : Sr) (A : Option Addr) (c : Nat) (w : World) (hl : s.vals.length ≤ 1000000) (hr : Rv w A s.vals) :
  Calls Tryz.prog 35 #[.agg #[.string s.name, .int .i64 s.start, .int .i64 s.step, .slice A s.vals.length c, .int .i64 s.cons]] w (RetS s w) := by
 go_enter Tryz.func35, Tryz.ntmps35
 go_wp2_with fail
 refine (clone_any A c s.vals _ hl ?hr).mono ?_
 case hr => exact hr.gr (by repeat (first | exact Gr.refl _ | refine Gr.alloc ?_ _ | refine Gr.drew ?_ | refine Gr.setCell ?_ (by first | (simp; done) | (simp; omega) | omega) _ | refine Gr.trans ?_ (by assumption)))
 rintro e w1 ⟨A', c', rfl, hrv, hg, hnew⟩
 obtain ⟨hc, hf⟩ := hg.cells
 have z1 := hg.size
 simp at z1
 have z0 : w.heap.size < w1.heap.size := by omega
 have z2 : w.heap.size + 1 < w1.heap.size := by omega
 have hgw : Gr w w1 := (by repeat (first | exact Gr.refl _ | refine Gr.alloc ?_ _ | refine Gr.drew ?_ | refine Gr.setCell ?_ (by first | (simp; done) | (simp; omega) | omega) _ | refine Gr.trans ?_ (by assumption)))
 have q0 : w1.cell? ⟨w.heap.size, 0, none⟩ = some (.string s.name) := by go_simp
 have f0 : w1.frozen? ⟨w.heap.size, 0, none⟩ = false := by go_simp
 have q1 : w1.cell? ⟨w.heap.size, 1, none⟩ = some (.int .i64 s.start) := by go_simp
 have f1 : w1.frozen? ⟨w.heap.size, 1, none⟩ = false := by go_simp
 have q2 : w1.cell? ⟨w.heap.size, 2, none⟩ = some (.int .i64 s.step) := by go_simp
 have f2 : w1.frozen? ⟨w.heap.size, 2, none⟩ = false := by go_simp
 have q3 : w1.cell? ⟨w.heap.size, 3, none⟩ = some (.slice A s.vals.length c) := by go_simp
 have f3 : w1.frozen? ⟨w.heap.size, 3, none⟩ = false := by go_simp
 have q4 : w1.cell? ⟨w.heap.size, 4, none⟩ = some (.int .i64 s.cons) := by go_simp
 have f4 : w1.frozen? ⟨w.heap.size, 4, none⟩ = false := by go_simp
 have p0 : w1.cell? ⟨w.heap.size + 1, 0, none⟩ = some (.string ⟨#[]⟩) := by go_simp
 have g0 : w1.frozen? ⟨w.heap.size + 1, 0, none⟩ = false := by go_simp
 have p1 : w1.cell? ⟨w.heap.size + 1, 1, none⟩ = some (.int .i64 0) := by go_simp
 have g1 : w1.frozen? ⟨w.heap.size + 1, 1, none⟩ = false := by go_simp
 have p2 : w1.cell? ⟨w.heap.size + 1, 2, none⟩ = some (.int .i64 0) := by go_simp
 have g2 : w1.frozen? ⟨w.heap.size + 1, 2, none⟩ = false := by go_simp
 have p3 : w1.cell? ⟨w.heap.size + 1, 3, none⟩ = some (.slice none 0 0) := by go_simp
 have g3 : w1.frozen? ⟨w.heap.size + 1, 3, none⟩ = false := by go_simp
 have p4 : w1.cell? ⟨w.heap.size + 1, 4, none⟩ = some (.int .i64 0) := by go_simp
 have g4 : w1.frozen? ⟨w.heap.size + 1, 4, none⟩ = false := by go_simp
 have hn1 : ∀ ad, A' = some ad → w.heap.size + 1 < ad.block := fun ad h => by have := hnew ad h; simp at this; omega
 have hn0 : ∀ ad, A' = some ad → w.heap.size < ad.block := fun ad h => by have := hn1 ad h; omega
 clear hc hf hg hnew
 go_wp2
 refine bodyPost_ret (v := .agg #[.string s.name, .int .i64 s.start, .int .i64 s.step, .slice A' s.vals.length c', .int .i64 s.cons]) (by simp [results, Tryz.results35, go_sem, *]) rfl ⟨A', c', rfl, ?_, ?_, ?_⟩
 ·
  exact (Rv.set (Rv.set (Rv.set (Rv.set (Rv.set (Rv.set hrv _ _ hn0) _ _ hn1) _ _ hn1) _ _ hn1) _ _ hn1) _ _ hn1)
 ·
  exact (Gr.setCell (Gr.setCell (Gr.setCell (Gr.setCell (Gr.setCell (Gr.setCell hgw (Nat.le_refl _) _) (Nat.le_succ _) _) (Nat.le_succ _) _) (Nat.le_succ _) _) (Nat.le_succ _) _) (Nat.le_succ _) _)
 ·
  exact fun ad h => Nat.le_of_lt (hn0 ad h)

set_option maxRecDepth 100000 in
set_option maxHeartbeats 1600000 in
theorem rown_any (s : Sr) (A : Option Addr) (c : Nat) (w : World) (hl : s.vals.length ≤ 1000000) (hr : Rv w A s.vals) :
  Calls Tryz.prog 40 #[.agg #[.string s.name, .int .i64 s.start, .int .i64 s.step, .slice A s.vals.length c, .int .i64 s.cons]] w (RetS s w) := by
 obtain ⟨i0, hi, hz0, hz1, hz2⟩ := info_parts info_val
 have hown0 := own_at (w.heap.size + 1 + 1) ((w.alloc (.cells #[.string s.name, .int .i64 s.start, .int .i64 s.step, .slice A s.vals.length c, .int .i64 s.cons] 30)).alloc (.cells #[.string ⟨#[]⟩, .int .i64 0, .int .i64 0, .slice none 0 0, .int .i64 0] 30)) (by simp) 23 2
 have hr0 := hr.gr (Gr.alloc (Gr.alloc (Gr.alloc (Gr.refl w) (.cells #[.string s.name, .int .i64 s.start, .int .i64 s.step, .slice A s.vals.length c, .int .i64 s.cons] 30)) (.cells #[.string ⟨#[]⟩, .int .i64 0, .int .i64 0, .slice none 0 0, .int .i64 0] 30)) (.cells #[] 23))
 have hg0 := Gr.alloc (Gr.alloc (Gr.alloc (Gr.refl w) (.cells #[.string s.name, .int .i64 s.start, .int .i64 s.step, .slice A s.vals.length c, .int .i64 s.cons] 30)) (.cells #[.string ⟨#[]⟩, .int .i64 0, .int .i64 0, .slice none 0 0, .int .i64 0] 30)) (.cells #[] 23)
 have hg1 := Gr.alloc (Gr.refl ((w.alloc (.cells #[.string s.name, .int .i64 s.start, .int .i64 s.step, .slice A s.vals.length c, .int .i64 s.cons] 30)).alloc (.cells #[.string ⟨#[]⟩, .int .i64 0, .int .i64 0, .slice none 0 0, .int .i64 0] 30))) (.cells #[] 23)
 go_enter Tryz.func40, Tryz.ntmps40
 go_wp2_with
  (
   at_builtin
   refine wpList_append_rd rfl (.tmp 3) (.tmp 5) 28 rfl (w.heap.size + 1 + 1) 23 i0 _ 2 16 Tryz.underlying28 hi hz0 hz1 hz2 rfl (by decide) _ _ _ rfl hown0 A s.vals.length c (vcells s.vals) rfl hr0 (vcells_one _) (by unfold maxLen; omega) (by omega) (by simp) ?_
   intro v' w1 hown2 hgr2 hat2
   have hgw : Gr w w1 := Gr.grown hg0 hgr2 (fun k hk => by have h : some (w.heap.size + 1 + 1) = some k := hk; injection h with h; omega)
   have hgB := Gr.grown hg1 hgr2 (fun k hk => by have h : some (w.heap.size + 1 + 1) = some k := hk; injection h with h; simp; omega)
   rw [Nat.zero_add, List.nil_append] at hown2
   obtain ⟨A', c', hv⟩ := own_form hown2
   subst hv
   have hrv := Rd.own hown2
   have hn1 : ∀ ad, A' = some ad → w.heap.size + 1 < ad.block := fun ad h => by have := own_new hown2 ad h; omega
   have hn0 : ∀ ad, A' = some ad → w.heap.size < ad.block := fun ad h => by have := hn1 ad h; omega
   obtain ⟨hc, hf⟩ := hgB.cells
   have z1 := hgB.size
   simp at z1
   have z0 : w.heap.size < w1.heap.size := by omega
   have z2 : w.heap.size + 1 < w1.heap.size := by omega
   have q0 : w1.cell? ⟨w.heap.size, 0, none⟩ = some (.string s.name) := by go_simp
   have f0 : w1.frozen? ⟨w.heap.size, 0, none⟩ = false := by go_simp
   have q1 : w1.cell? ⟨w.heap.size, 1, none⟩ = some (.int .i64 s.start) := by go_simp
   have f1 : w1.frozen? ⟨w.heap.size, 1, none⟩ = false := by go_simp
   have q2 : w1.cell? ⟨w.heap.size, 2, none⟩ = some (.int .i64 s.step) := by go_simp
   have f2 : w1.frozen? ⟨w.heap.size, 2, none⟩ = false := by go_simp
   have q3 : w1.cell? ⟨w.heap.size, 3, none⟩ = some (.slice A s.vals.length c) := by go_simp
   have f3 : w1.frozen? ⟨w.heap.size, 3, none⟩ = false := by go_simp
   have q4 : w1.cell? ⟨w.heap.size, 4, none⟩ = some (.int .i64 s.cons) := by go_simp
   have f4 : w1.frozen? ⟨w.heap.size, 4, none⟩ = false := by go_simp
   have p0 : w1.cell? ⟨w.heap.size + 1, 0, none⟩ = some (.string ⟨#[]⟩) := by go_simp
   have g0 : w1.frozen? ⟨w.heap.size + 1, 0, none⟩ = false := by go_simp
   have p1 : w1.cell? ⟨w.heap.size + 1, 1, none⟩ = some (.int .i64 0) := by go_simp
   have g1 : w1.frozen? ⟨w.heap.size + 1, 1, none⟩ = false := by go_simp
   have p2 : w1.cell? ⟨w.heap.size + 1, 2, none⟩ = some (.int .i64 0) := by go_simp
   have g2 : w1.frozen? ⟨w.heap.size + 1, 2, none⟩ = false := by go_simp
   have p3 : w1.cell? ⟨w.heap.size + 1, 3, none⟩ = some (.slice none 0 0) := by go_simp
   have g3 : w1.frozen? ⟨w.heap.size + 1, 3, none⟩ = false := by go_simp
   have p4 : w1.cell? ⟨w.heap.size + 1, 4, none⟩ = some (.int .i64 0) := by go_simp
   have g4 : w1.frozen? ⟨w.heap.size + 1, 4, none⟩ = false := by go_simp
   clear hc hf hgB hg0 hg1 hgr2 hat2 hown2 hown0 hr0)
 refine bodyPost_ret (v := .agg #[.string s.name, .int .i64 s.start, .int .i64 s.step, .slice A' s.vals.length c', .int .i64 s.cons]) (by simp [results, Tryz.results40, go_sem, *]) rfl ⟨A', c', rfl, ?_, ?_, ?_⟩
 ·
  exact (Rv.set (Rv.set (Rv.set (Rv.set (Rv.set (Rv.set hrv _ _ hn0) _ _ hn1) _ _ hn1) _ _ hn1) _ _ hn1) _ _ hn1)
 ·
  exact (Gr.setCell (Gr.setCell (Gr.setCell (Gr.setCell (Gr.setCell (Gr.setCell hgw (Nat.le_refl _) _) (Nat.le_succ _) _) (Nat.le_succ _) _) (Nat.le_succ _) _) (Nat.le_succ _) _) (Nat.le_succ _) _)
 ·
  exact fun ad h => Nat.le_of_lt (hn0 ad h)
end Go.Proofs.YtbdichmkgcngbaaGreat
namespace Go.Proofs.YtbdichmkgcngbaaGreat
set_option linter.unusedVariables false
set_option linter.unusedSimpArgs false
open Go.RowKit

end Go.Proofs.YtbdichmkgcngbaaGreat
namespace Go.Proofs.YtbdichmkgcngbaaGreat
set_option linter.unusedVariables false
set_option linter.unusedSimpArgs false
open Go.RowKit

def FB (s : Sr) (A : Option Addr) (c : Nat) (B0 : Nat) (W : World) : Prop :=
 W.cell? ⟨B0, 0, none⟩ = some (.string s.name) ∧ W.cell? ⟨B0, 1, none⟩ = some (.int .i64 s.start) ∧ W.cell? ⟨B0, 2, none⟩ = some (.int .i64 s.step) ∧ W.cell? ⟨B0, 3, none⟩ = some (.slice A s.vals.length c) ∧ W.cell? ⟨B0, 4, none⟩ = some (.int .i64 s.cons) ∧ W.cell? ⟨B0 + 1, 0, none⟩ = some (.string ⟨#[]⟩) ∧ W.cell? ⟨B0 + 1, 1, none⟩ = some (.int .i64 0) ∧ W.cell? ⟨B0 + 1, 2, none⟩ = some (.int .i64 0) ∧ W.cell? ⟨B0 + 1, 3, none⟩ = some (.slice none 0 0) ∧ W.cell? ⟨B0 + 1, 4, none⟩ = some (.int .i64 0) ∧ W.frozen? ⟨B0 + 1, 0, none⟩ = false ∧ W.frozen? ⟨B0 + 1, 1, none⟩ = false ∧ W.frozen? ⟨B0 + 1, 2, none⟩ = false ∧ W.frozen? ⟨B0 + 1, 3, none⟩ = false ∧ W.frozen? ⟨B0 + 1, 4, none⟩ = false ∧ B0 + 1 < W.heap.size
theorem FB.gr {s : Sr} {A : Option Addr} {c : Nat} {B0 : Nat} {W W' : World} (h : FB s A c B0 W) (g : Gr W W') : FB s A c B0 W' := by
 obtain ⟨q0, q1, q2, q3, q4, p0, p1, p2, p3, p4, g0, g1, g2, g3, g4, sz⟩ := h
 have h0 : B0 < W.heap.size := by omega
 exact ⟨(g.cell (p := ⟨B0, 0, none⟩) h0).trans q0, (g.cell (p := ⟨B0, 1, none⟩) h0).trans q1, (g.cell (p := ⟨B0, 2, none⟩) h0).trans q2, (g.cell (p := ⟨B0, 3, none⟩) h0).trans q3, (g.cell (p := ⟨B0, 4, none⟩) h0).trans q4, (g.cell (p := ⟨B0 + 1, 0, none⟩) sz).trans p0, (g.cell (p := ⟨B0 + 1, 1, none⟩) sz).trans p1, (g.cell (p := ⟨B0 + 1, 2, none⟩) sz).trans p2, (g.cell (p := ⟨B0 + 1, 3, none⟩) sz).trans p3, (g.cell (p := ⟨B0 + 1, 4, none⟩) sz).trans p4, (g.frozen (p := ⟨B0 + 1, 0, none⟩) sz).trans g0, (g.frozen (p := ⟨B0 + 1, 1, none⟩) sz).trans g1, (g.frozen (p := ⟨B0 + 1, 2, none⟩) sz).trans g2, (g.frozen (p := ⟨B0 + 1, 3, none⟩) sz).trans g3, (g.frozen (p := ⟨B0 + 1, 4, none⟩) sz).trans g4, Nat.lt_of_lt_of_le sz g.size⟩

end Go.Proofs.YtbdichmkgcngbaaGreat
namespace Go.Proofs.YtbdichmkgcngbaaGreat
set_option linter.unusedVariables false
set_option linter.unusedSimpArgs false
open Go.RowKit

def seqL (k : Nat) : List Vl := (List.range k).map fun (i : Nat) => ⟨true, (i : Int) + 1⟩
theorem seqL_len (k : Nat) : (seqL k).length = k := by simp [seqL]
theorem seqL_succ (k : Nat) : seqL (k + 1) = seqL k ++ [⟨true, (k : Int) + 1⟩] := by simp [seqL, List.range_succ]
theorem shrunk5 : shrinkS ⟨⟨#[97]⟩, 0, 10, seqL 5, 0⟩ 2 = ⟨⟨#[97]⟩, 0, 30, [⟨true, 2⟩, ⟨true, 5⟩], 0⟩ := by kernel_rfl
theorem own_cap {w : World} {base : Nat} {e : TypeId} {size n c : Nat} {A : Option Addr} {xs : List Value} (h : w.ownsRow base e size (.slice A n c) n xs) : n ≤ c := by
 obtain ⟨_, ⟨hv, h0⟩ | ⟨g, cap, cur, hv, _, _, hc, _⟩⟩ := h
 ·
  omega
 ·
  injection hv with _ _ h3; omega
def KC (B : Nat) (v : Value) (W : World) : Prop := W.cell? ⟨B, 0, none⟩ = some (.string ⟨#[97]⟩) ∧ W.cell? ⟨B, 1, none⟩ = some (.int .i64 0) ∧ W.cell? ⟨B, 2, none⟩ = some (.int .i64 10) ∧ W.cell? ⟨B, 3, none⟩ = some (v) ∧ W.cell? ⟨B, 4, none⟩ = some (.int .i64 0) ∧ W.frozen? ⟨B, 3, none⟩ = false ∧ B < W.heap.size
theorem KC.below {B : Nat} {v : Value} {W W' : World} (h : KC B v W) (g : Below (B + 1) W W') : KC B v W' := by
 obtain ⟨c0, c1, c2, c3, c4, f3, sz⟩ := h
 exact ⟨(g.cell (p := ⟨B, 0, none⟩) (Nat.lt_succ_self B)).trans c0, (g.cell (p := ⟨B, 1, none⟩) (Nat.lt_succ_self B)).trans c1, (g.cell (p := ⟨B, 2, none⟩) (Nat.lt_succ_self B)).trans c2, (g.cell (p := ⟨B, 3, none⟩) (Nat.lt_succ_self B)).trans c3, (g.cell (p := ⟨B, 4, none⟩) (Nat.lt_succ_self B)).trans c4, (g.frozen (p := ⟨B, 3, none⟩) (Nat.lt_succ_self B)).trans f3, Nat.lt_of_lt_of_le sz g.size⟩
theorem KC.set {B : Nat} {v : Value} {W : World} (h : KC B v W) (u : Value) : KC B u (W.setCell ⟨B, 3, none⟩ u) := by
 obtain ⟨c0, c1, c2, c3, c4, f3, sz⟩ := h
 refine ⟨?_, ?_, ?_, ?_, ?_, ?_, ?_⟩
 ·
  exact (World.cell?_setCell_other W ⟨B, 3, none⟩ ⟨B, 0, none⟩ _ (by simp)).trans c0
 ·
  exact (World.cell?_setCell_other W ⟨B, 3, none⟩ ⟨B, 1, none⟩ _ (by simp)).trans c1
 ·
  exact (World.cell?_setCell_other W ⟨B, 3, none⟩ ⟨B, 2, none⟩ _ (by simp)).trans c2
 ·
  go_simp
 ·
  exact (World.cell?_setCell_other W ⟨B, 3, none⟩ ⟨B, 4, none⟩ _ (by simp)).trans c4
 ·
  exact (by simp : (W.setCell ⟨B, 3, none⟩ u).frozen? ⟨B, 3, none⟩ = W.frozen? ⟨B, 3, none⟩).trans f3
 ·
  simpa using sz

end Go.Proofs.YtbdichmkgcngbaaGreat
