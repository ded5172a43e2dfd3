/- What Fit's walk stands on: append at one operation of a drawn region; the cells that a series' making holds. No program in sight. -/
import Derived.Test.YtoikpkgogncdhaaSrSmall
import Derived.Test.YtoikpkgogncdhaaSrWithin
import Derived.Test.YtoikpkgogncdhaaRegZ
namespace Go.Proofs.Ytoikpkgogncdhaa
set_option linter.unusedVariables false
set_option linter.unusedSimpArgs false
open Go.RowKit

section
variable {P : Program} {w : World}
theorem wp_append_rd {o : Oper} {a : Act} {Q : Exit → Act → World → Prop} {K : Act → World → Prop} (s x : Operand) (t : TypeId)
    (ho : o.op = .call { callee := .builtin .append, args := #[s, x], argTypes := #[t, t] })
    (base : Nat) (e : TypeId) (i : TypeInfo) (z : Value) (size bytes : Nat) (ht : P.underlying t = some (.slice e)) (hi : P.info? e = some i) (hz : i.zero = some z)
    (hsize : i.size = size) (hby : i.bytes = bytes) (hzs : z.cells.size = size) (hsz : 0 < size)
    (v : Value) (n : Nat) (xs : List Value) (hs : a.eval s = v) (hown : w.ownsRow base e size v n xs)
    (ad : Addr) (m c : Nat) (news : List Value) (hx : a.eval x = .slice (some ad) m c) (hr : Rd w size (some ad) m news) (hm : 0 < m) (h1 : ∀ u ∈ news, u.oneCell' = true)
    (h63 : n + m ≤ maxLen) (hbytes : (n + m) * bytes ≤ 140737488355328) (hbase : base ≤ w.heap.size)
    (h : ∀ v' w', w'.ownsRow base e size v' (n + m) (xs ++ news) → w.grownBy w' v.ownBlock → (v'.ownBlock = v.ownBlock ∨ v'.ownBlock = some w.heap.size) → K (a.put o.dst v') w') : Oper.wp P o a w K Q := by
  obtain ⟨ad', e', _, hc⟩ := hr.2 hm
  injection e' with e'
  subst e'
  obtain ⟨v', w', hr1, h2, h3, _, h4⟩ := run_append_own_at (P := P) w base t o.type e i z size bytes ht hi hz hsize hby hzs hsz v n xs hown ad m c news hr.1 hc h1 h63 hbytes hbase
  unfold Oper.wp execOp
  simp only [ho, resolve, invoke, builtin, Sem.run_bind, Sem.run_pure, Result.andThen_ok, List.map_toArray, List.map_cons, List.map_nil, hs, hx, hr1]
  exact h v' w' h2 h3 h4
theorem own_set {base : Nat} {e : TypeId} {size n : Nat} {v : Value} {xs : List Value} (h : w.ownsRow base e size v n xs) {p : Addr} (hp : p.block < base) (u : Value) : (w.setCell p u).ownsRow base e size v n xs := by
  obtain ⟨h1, ⟨hv, h0⟩ | ⟨g', cap, cur, hv, hb, hh, h2⟩⟩ := h
  · exact ⟨h1, .inl ⟨hv, h0⟩⟩
  · exact ⟨h1, .inr ⟨g', cap, cur, hv, hb, (Below.heap_setCell w p u g' (by omega)).trans hh, h2⟩⟩
end

/-- the cells of Fit's frame: the series that came in (block B0), the result (block B0 + 1), what is made (block B9). -/
def FC (s : Sr) (A : Option Addr) (c : Nat) (start step : Int) (B0 B9 : Nat) (A' : Option Addr) (k c' : Nat) (W : World) : Prop :=
  W.cell? ⟨B0, 0, none⟩ = some (.string s.name) ∧
  W.cell? ⟨B0, 1, none⟩ = some (.int .i64 s.start) ∧
  W.cell? ⟨B0, 2, none⟩ = some (.int .i64 s.step) ∧
  W.cell? ⟨B0, 3, none⟩ = some (.slice A s.vals.length c) ∧
  W.cell? ⟨B0, 4, none⟩ = some (.int .i64 s.cons) ∧
  W.cell? ⟨B0 + 1, 0, none⟩ = some (.string ⟨#[]⟩) ∧
  W.cell? ⟨B0 + 1, 1, none⟩ = some (.int .i64 0) ∧
  W.cell? ⟨B0 + 1, 2, none⟩ = some (.int .i64 0) ∧
  W.cell? ⟨B0 + 1, 3, none⟩ = some (.slice none 0 0) ∧
  W.cell? ⟨B0 + 1, 4, none⟩ = some (.int .i64 0) ∧
  W.frozen? ⟨B0 + 1, 0, none⟩ = false ∧
  W.frozen? ⟨B0 + 1, 1, none⟩ = false ∧
  W.frozen? ⟨B0 + 1, 2, none⟩ = false ∧
  W.frozen? ⟨B0 + 1, 3, none⟩ = false ∧
  W.frozen? ⟨B0 + 1, 4, none⟩ = false ∧
  W.cell? ⟨B9, 0, none⟩ = some (.string s.name) ∧
  W.cell? ⟨B9, 1, none⟩ = some (.int .i64 start) ∧
  W.cell? ⟨B9, 2, none⟩ = some (.int .i64 step) ∧
  W.cell? ⟨B9, 3, none⟩ = some ((.slice A' k c')) ∧
  W.cell? ⟨B9, 4, none⟩ = some (.int .i64 s.cons) ∧
  W.frozen? ⟨B9, 3, none⟩ = false ∧
  B9 < W.heap.size
theorem FC.below {s : Sr} {A : Option Addr} {c : Nat} {start step : Int} {B0 B9 : Nat} {A' : Option Addr} {k c' : Nat} {W W' : World} (h : FC s A c start step B0 B9 A' k c' W) (hz : B0 + 1 < B9) (g : Below (B9 + 1) W W') : FC s A c start step B0 B9 A' k c' W' := by
  obtain ⟨q0, q1, q2, q3, q4, p0, p1, p2, p3, p4, g0, g1, g2, g3, g4, o0, o1, o2, o3, o4, f3, sz⟩ := h
  have h0 : B0 < B9 + 1 := by omega
  have h1 : B0 + 1 < B9 + 1 := by omega
  have h2 : B9 < B9 + 1 := by omega
  exact ⟨(g.cell (p := ⟨B0, 0, none⟩) h0).trans q0, (g.cell (p := ⟨B0, 1, none⟩) h0).trans q1, (g.cell (p := ⟨B0, 2, none⟩) h0).trans q2, (g.cell (p := ⟨B0, 3, none⟩) h0).trans q3, (g.cell (p := ⟨B0, 4, none⟩) h0).trans q4, (g.cell (p := ⟨B0 + 1, 0, none⟩) h1).trans p0, (g.cell (p := ⟨B0 + 1, 1, none⟩) h1).trans p1, (g.cell (p := ⟨B0 + 1, 2, none⟩) h1).trans p2, (g.cell (p := ⟨B0 + 1, 3, none⟩) h1).trans p3, (g.cell (p := ⟨B0 + 1, 4, none⟩) h1).trans p4, (g.frozen (p := ⟨B0 + 1, 0, none⟩) h1).trans g0, (g.frozen (p := ⟨B0 + 1, 1, none⟩) h1).trans g1, (g.frozen (p := ⟨B0 + 1, 2, none⟩) h1).trans g2, (g.frozen (p := ⟨B0 + 1, 3, none⟩) h1).trans g3, (g.frozen (p := ⟨B0 + 1, 4, none⟩) h1).trans g4, (g.cell (p := ⟨B9, 0, none⟩) h2).trans o0, (g.cell (p := ⟨B9, 1, none⟩) h2).trans o1, (g.cell (p := ⟨B9, 2, none⟩) h2).trans o2, (g.cell (p := ⟨B9, 3, none⟩) h2).trans o3, (g.cell (p := ⟨B9, 4, none⟩) h2).trans o4, (g.frozen (p := ⟨B9, 3, none⟩) h2).trans f3, Nat.lt_of_lt_of_le sz g.size⟩
theorem FC.gr {s : Sr} {A : Option Addr} {c : Nat} {start step : Int} {B0 B9 : Nat} {A' : Option Addr} {k c' : Nat} {W W' : World} (h : FC s A c start step B0 B9 A' k c' W) (hz : B0 + 1 < B9) (g : Gr W W') : FC s A c start step B0 B9 A' k c' W' :=
  h.below hz (Below.mono g (by obtain ⟨_, _, _, _, _, _, _, _, _, _, _, _, _, _, _, _, _, _, _, _, _, sz⟩ := h; omega))
theorem FC.set {s : Sr} {A : Option Addr} {c : Nat} {start step : Int} {B0 B9 : Nat} {A' : Option Addr} {k c' : Nat} {W : World} (h : FC s A c start step B0 B9 A' k c' W) (hz : B0 + 1 < B9) (A2 : Option Addr) (k2 c2 : Nat) :
    FC s A c start step B0 B9 A2 k2 c2 (W.setCell ⟨B9, 3, none⟩ (.slice A2 k2 c2)) := by
  obtain ⟨q0, q1, q2, q3, q4, p0, p1, p2, p3, p4, g0, g1, g2, g3, g4, o0, o1, o2, o3, o4, f3, sz⟩ := h
  have n0 : B9 ≠ B0 := by omega
  have n1 : B9 ≠ B0 + 1 := by omega
  refine ⟨?_, ?_, ?_, ?_, ?_, ?_, ?_, ?_, ?_, ?_, ?_, ?_, ?_, ?_, ?_, ?_, ?_, ?_, ?_, ?_, ?_, ?_⟩
  · exact (World.cell?_setCell_far W ⟨B9, 3, none⟩ ⟨B0, 0, none⟩ _ n0).trans q0
  · exact (World.cell?_setCell_far W ⟨B9, 3, none⟩ ⟨B0, 1, none⟩ _ n0).trans q1
  · exact (World.cell?_setCell_far W ⟨B9, 3, none⟩ ⟨B0, 2, none⟩ _ n0).trans q2
  · exact (World.cell?_setCell_far W ⟨B9, 3, none⟩ ⟨B0, 3, none⟩ _ n0).trans q3
  · exact (World.cell?_setCell_far W ⟨B9, 3, none⟩ ⟨B0, 4, none⟩ _ n0).trans q4
  · exact (World.cell?_setCell_far W ⟨B9, 3, none⟩ ⟨B0 + 1, 0, none⟩ _ n1).trans p0
  · exact (World.cell?_setCell_far W ⟨B9, 3, none⟩ ⟨B0 + 1, 1, none⟩ _ n1).trans p1
  · exact (World.cell?_setCell_far W ⟨B9, 3, none⟩ ⟨B0 + 1, 2, none⟩ _ n1).trans p2
  · exact (World.cell?_setCell_far W ⟨B9, 3, none⟩ ⟨B0 + 1, 3, none⟩ _ n1).trans p3
  · exact (World.cell?_setCell_far W ⟨B9, 3, none⟩ ⟨B0 + 1, 4, none⟩ _ n1).trans p4
  · exact (by simp : (W.setCell ⟨B9, 3, none⟩ (.slice A2 k2 c2)).frozen? ⟨B0 + 1, 0, none⟩ = W.frozen? ⟨B0 + 1, 0, none⟩).trans g0
  · exact (by simp : (W.setCell ⟨B9, 3, none⟩ (.slice A2 k2 c2)).frozen? ⟨B0 + 1, 1, none⟩ = W.frozen? ⟨B0 + 1, 1, none⟩).trans g1
  · exact (by simp : (W.setCell ⟨B9, 3, none⟩ (.slice A2 k2 c2)).frozen? ⟨B0 + 1, 2, none⟩ = W.frozen? ⟨B0 + 1, 2, none⟩).trans g2
  · exact (by simp : (W.setCell ⟨B9, 3, none⟩ (.slice A2 k2 c2)).frozen? ⟨B0 + 1, 3, none⟩ = W.frozen? ⟨B0 + 1, 3, none⟩).trans g3
  · exact (by simp : (W.setCell ⟨B9, 3, none⟩ (.slice A2 k2 c2)).frozen? ⟨B0 + 1, 4, none⟩ = W.frozen? ⟨B0 + 1, 4, none⟩).trans g4
  · exact (World.cell?_setCell_other W ⟨B9, 3, none⟩ ⟨B9, 0, none⟩ _ (by simp)).trans o0
  · exact (World.cell?_setCell_other W ⟨B9, 3, none⟩ ⟨B9, 1, none⟩ _ (by simp)).trans o1
  · exact (World.cell?_setCell_other W ⟨B9, 3, none⟩ ⟨B9, 2, none⟩ _ (by simp)).trans o2
  · go_simp
  · exact (World.cell?_setCell_other W ⟨B9, 3, none⟩ ⟨B9, 4, none⟩ _ (by simp)).trans o4
  · exact (by simp : (W.setCell ⟨B9, 3, none⟩ (.slice A2 k2 c2)).frozen? ⟨B9, 3, none⟩ = W.frozen? ⟨B9, 3, none⟩).trans f3
  · simpa using sz
end Go.Proofs.Ytoikpkgogncdhaa
