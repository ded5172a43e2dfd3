/- 'GX R': what leaves all but one block alone. No program in sight. -/
import Derived.Test.YtpcmdijgepbilaaFxRead
namespace Go.Proofs.Ytpcmdijgepbilaa
set_option linter.unusedVariables false
set_option linter.unusedSimpArgs false
open Go.RowKit

/-- all that was there, but block R, is as it was. -/
structure GX (R : Nat) (w w' : World) : Prop where
  os : w'.os = w.os
  tape : w'.tape = w.tape
  output : w'.output = w.output
  size : w.heap.size ≤ w'.heap.size
  block : ∀ k, k < w.heap.size → k ≠ R → w'.heap[k]? = w.heap[k]?
theorem GX.refl (R : Nat) (w : World) : GX R w w := ⟨rfl, rfl, rfl, Nat.le_refl _, fun _ _ _ => rfl⟩
theorem GX.trans {R : Nat} {a b c : World} (h : GX R a b) (k : GX R b c) : GX R a c :=
  ⟨k.os.trans h.os, k.tape.trans h.tape, k.output.trans h.output, Nat.le_trans h.size k.size, fun i hi hn => (k.block i (Nat.lt_of_lt_of_le hi h.size) hn).trans (h.block i hi hn)⟩
theorem GX.of_gr {R : Nat} {w w' : World} (h : Gr w w') : GX R w w' := ⟨h.os, h.tape, h.output, h.size, fun k hk _ => Below.block h k hk⟩
theorem GX.alloc {R : Nat} {a w : World} (h : GX R a w) (o : Obj) : GX R a (w.alloc o) := h.trans (GX.of_gr (Gr.alloc (Gr.refl w) o))
theorem GX.drew {R : Nat} {a w : World} (h : GX R a w) : GX R a w.drew := h.trans (GX.of_gr (Gr.drew (Gr.refl w)))
theorem GX.drewN {R : Nat} {a w : World} (h : GX R a w) (n : Nat) : GX R a (w.drewN n) := ⟨h.os, h.tape, h.output, h.size, h.block⟩
theorem GX.setCell {R : Nat} {a w : World} (h : GX R a w) {p : Addr} (hp : p.block = R ∨ a.heap.size ≤ p.block) (u : Value) : GX R a (w.setCell p u) :=
  ⟨h.os, h.tape, h.output, Nat.le_trans h.size (by simp [World.setCell]), fun k hk hn => (Below.heap_setCell _ _ _ _ (by omega)).trans (h.block k hk hn)⟩
theorem GX.gr {R : Nat} {a w w' : World} (h : Gr a w) (g : GX R w w') (hR : a.heap.size ≤ R) : Gr a w' :=
  ⟨g.os.trans h.os, g.tape.trans h.tape, g.output.trans h.output, Nat.le_trans h.size g.size, fun k hk => (g.block k (Nat.lt_of_lt_of_le hk h.size) (by omega)).trans (h.block k hk)⟩
theorem GX.cell {R : Nat} {w w' : World} (h : GX R w w') {p : Addr} (hp : p.block < w.heap.size) (hn : p.block ≠ R) : w'.cell? p = w.cell? p := World.cell?_of_block (h.block _ hp hn)
theorem GX.frozen {R : Nat} {w w' : World} (h : GX R w w') {p : Addr} (hp : p.block < w.heap.size) (hn : p.block ≠ R) : w'.frozen? p = w.frozen? p := World.frozen?_of_block (h.block _ hp hn)
theorem GX.cells {R : Nat} {W w1 : World} (hb : GX R W w1) : (∀ b o, b < W.heap.size → b ≠ R → w1.cell? ⟨b, o, none⟩ = W.cell? ⟨b, o, none⟩) ∧ (∀ b o, b < W.heap.size → b ≠ R → w1.frozen? ⟨b, o, none⟩ = W.frozen? ⟨b, o, none⟩) :=
  ⟨fun b o h hn => hb.cell (p := ⟨b, o, none⟩) h hn, fun b o h hn => hb.frozen (p := ⟨b, o, none⟩) h hn⟩
end Go.Proofs.Ytpcmdijgepbilaa
