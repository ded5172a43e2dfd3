/- RegQ's region once more, its state behind a structure, so that Lean does not reckon a guard where nobody asks for it. No program in sight. -/
import Derived.Test.YtpcmdijgepbilaaRegQ
namespace Go.Proofs.Ytpcmdijgepbilaa
set_option linter.unusedVariables false
set_option linter.unusedSimpArgs false
open Go

structure WQ (P : Program) (ops : Array Oper) (C : World → Prop) (Q : Act → Prop) (l : List Oper) (a : Act) : Prop where
  out : wpQuiet P ops C Q l a
section
variable {P : Program} {ops : Array Oper} {C : World → Prop} {Q : Act → Prop} {o : Oper} {rest : List Oper} {a : Act}
theorem r_val {v : Value} (hw : Region.wanted o (yielded ops a.tmps) = true) (h : ∀ W, C W → (execOp a.eval o).run P W = .ok (.value v) W) (hr : WQ P ops C Q rest (a.put o.dst v)) :
    WQ P ops C Q (o :: rest) a := ⟨q_val hw h hr.out⟩
theorem r_call {v : Value} {f : FuncId} {args : Array Value} (hw : Region.wanted o (yielded ops a.tmps) = true) (h : ∀ W, C W → (execOp a.eval o).run P W = .ok (.enter f args) W)
    (hc : ∀ W, C W → Calls P f args W fun e w' => e = .returned v ∧ C w') (hr : WQ P ops C Q rest (a.put o.dst v)) : WQ P ops C Q (o :: rest) a := ⟨q_call hw h hc hr.out⟩
theorem r_skip (hw : Region.wanted o (yielded ops a.tmps) = false) (hr : WQ P ops C Q rest (a.put o.dst undef)) : WQ P ops C Q (o :: rest) a := ⟨q_skip hw hr.out⟩
theorem r_nil (h : Q a) : WQ P ops C Q [] a := ⟨wpQuiet_nil h⟩
theorem wanted_none (h : o.guard = none) (y : Nat → Option Bool) : Region.wanted o y = true := by simp [Region.wanted, h]
theorem wanted_some {i : Nat} {b : Bool} (h : o.guard = some (i, b)) {oi : Oper} (hi : ops[i]? = some oi) {d : Tmp} (hd : oi.dst = some d) {c : Bool} (hv : a.tmps[d]? = some (.bool c)) :
    Region.wanted o (yielded ops a.tmps) = (c == b) := by
  simp only [Region.wanted, h, yielded, hi, hd, hv, Option.bind_some]
  cases b <;> cases c <;> rfl
theorem region_R {id : Nat} {R : Exit → Act → World → Prop} {w : World} {l : List Oper} (hm : P.follows .mixedOrders = true) (hB : Region.lexB .any l.toArray = true)
    (h : WQ P l.toArray (fun W => Gr w W) (fun a' => ∀ w', Gr w w' → R .normal a' w') l a) : (Code.region id l.toArray true).wp P R a w := region_Q hm hB h.out
end
end Go.Proofs.Ytpcmdijgepbilaa
