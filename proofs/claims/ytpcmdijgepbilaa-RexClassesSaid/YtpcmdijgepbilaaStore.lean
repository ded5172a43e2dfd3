/- The store of one cell, as a law of its own. No program in sight. -/
import Derived.Great.BuildSlice
import Derived.WalkKit
namespace Go.Proofs.Ytpcmdijgepbilaa
open Go.RowKit

section
variable {P : Program}
theorem Addr.add_0 (p : Addr) : p.add 0 = p := rfl
theorem run_storeVar_cell (w : World) (p : Addr) (ty : TypeId) (u old : Value) (hc : w.cell? p = some old) (hf : w.frozen? p = false) (hi : (P.info? ty).map (·.size) = some 1) (h1 : u.oneCell' = true) : (storeVar ty p u).run P w = .ok () (w.setCell p u) := by
  have hcs : u.cells = #[u] := by cases u <;> first | rfl | cases h1
  have hst : (store p u).run P w = .ok () (w.setCell p u) := by
    rw [run_store P w _ u _ h1, hc]
    simp [hf]
  cases hq : P.info? ty with
  | none => simp [hq] at hi
  | some i =>
    have hs : i.size = 1 := by simpa [hq] using hi
    simp [storeVar, sizeOf, typeInfo, hq, hcs, hs, storeCells, Addr.add_0, hst]
theorem wp_store_cell {o : Oper} {a : Act} {w : World} {K : Act → World → Prop} {Q : Exit → Act → World → Prop} (ty : TypeId) (x y : Operand) (ho : o.op = .store ty x y)
    (p : Addr) (u old : Value) (hx : a.eval x = .pointer (some p)) (hy : a.eval y = u) (hc : w.cell? p = some old) (hf : w.frozen? p = false) (hi : (P.info? ty).map (·.size) = some 1) (h1 : u.oneCell' = true)
    (h : K (a.put o.dst undef) (w.setCell p u)) : o.wp P a w K Q := by
  unfold Oper.wp execOp
  simp only [ho, hx, hy, Instr.storeAt, Instr.sureAddr, Sem.run_bind, Sem.run_pure, Result.andThen_ok, run_storeVar_cell w p ty u old hc hf hi h1]
  exact h
end
end Go.Proofs.Ytpcmdijgepbilaa
