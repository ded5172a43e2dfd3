/- The reader's cells when they are set; the contract of rex.reader.fail. -/
import Derived.Test.YtpcmdijgepbilaaRxCls
import Derived.Test.YtpcmdijgepbilaaRxTree
namespace Go.Proofs.Ytpcmdijgepbilaa
set_option linter.unusedVariables false
set_option linter.unusedSimpArgs false
open Go.RowKit

theorem Rdr.setGroups {w : World} {R n : Nat} {s : ByteArray} {q : Rs} (h : Rdr w R s n q) (g : Nat) : Rdr (w.setCell ⟨R, 2, none⟩ (.int .i64 g)) R s n { q with groups := g } := by
  refine ⟨h.len, h.rest, ?_, ?_, ?_, ?_, ?_, ?_, ?_, ?_, ?_, ?_, ?_, ?_⟩
  · exact (World.cell?_setCell_other w ⟨R, 2, none⟩ ⟨R, 0, none⟩ _ (by simp)).trans h.c0
  · exact (World.cell?_setCell_other w ⟨R, 2, none⟩ ⟨R, 1, none⟩ _ (by simp)).trans h.c1
  · have := h.c2; have := h.f2; go_simp
  · exact (World.cell?_setCell_other w ⟨R, 2, none⟩ ⟨R, 3, none⟩ _ (by simp)).trans h.c3
  · exact (World.cell?_setCell_other w ⟨R, 2, none⟩ ⟨R, 4, none⟩ _ (by simp)).trans h.c4
  · exact (World.cell?_setCell_other w ⟨R, 2, none⟩ ⟨R, 5, none⟩ _ (by simp)).trans h.c5
  · exact (by simp : (w.setCell ⟨R, 2, none⟩ _).frozen? ⟨R, 1, none⟩ = w.frozen? ⟨R, 1, none⟩).trans h.f1
  · exact (by simp : (w.setCell ⟨R, 2, none⟩ _).frozen? ⟨R, 2, none⟩ = w.frozen? ⟨R, 2, none⟩).trans h.f2
  · exact (by simp : (w.setCell ⟨R, 2, none⟩ _).frozen? ⟨R, 3, none⟩ = w.frozen? ⟨R, 3, none⟩).trans h.f3
  · exact (by simp : (w.setCell ⟨R, 2, none⟩ _).frozen? ⟨R, 4, none⟩ = w.frozen? ⟨R, 4, none⟩).trans h.f4
  · exact (by simp : (w.setCell ⟨R, 2, none⟩ _).frozen? ⟨R, 5, none⟩ = w.frozen? ⟨R, 5, none⟩).trans h.f5
  · simpa using h.lt
theorem Rdr.setDeep {w : World} {R n : Nat} {s : ByteArray} {q : Rs} (h : Rdr w R s n q) (g : Nat) : Rdr (w.setCell ⟨R, 3, none⟩ (.int .i64 g)) R s n { q with deep := g } := by
  refine ⟨h.len, h.rest, ?_, ?_, ?_, ?_, ?_, ?_, ?_, ?_, ?_, ?_, ?_, ?_⟩
  · exact (World.cell?_setCell_other w ⟨R, 3, none⟩ ⟨R, 0, none⟩ _ (by simp)).trans h.c0
  · exact (World.cell?_setCell_other w ⟨R, 3, none⟩ ⟨R, 1, none⟩ _ (by simp)).trans h.c1
  · exact (World.cell?_setCell_other w ⟨R, 3, none⟩ ⟨R, 2, none⟩ _ (by simp)).trans h.c2
  · have := h.c3; have := h.f3; go_simp
  · exact (World.cell?_setCell_other w ⟨R, 3, none⟩ ⟨R, 4, none⟩ _ (by simp)).trans h.c4
  · exact (World.cell?_setCell_other w ⟨R, 3, none⟩ ⟨R, 5, none⟩ _ (by simp)).trans h.c5
  · exact (by simp : (w.setCell ⟨R, 3, none⟩ _).frozen? ⟨R, 1, none⟩ = w.frozen? ⟨R, 1, none⟩).trans h.f1
  · exact (by simp : (w.setCell ⟨R, 3, none⟩ _).frozen? ⟨R, 2, none⟩ = w.frozen? ⟨R, 2, none⟩).trans h.f2
  · exact (by simp : (w.setCell ⟨R, 3, none⟩ _).frozen? ⟨R, 3, none⟩ = w.frozen? ⟨R, 3, none⟩).trans h.f3
  · exact (by simp : (w.setCell ⟨R, 3, none⟩ _).frozen? ⟨R, 4, none⟩ = w.frozen? ⟨R, 4, none⟩).trans h.f4
  · exact (by simp : (w.setCell ⟨R, 3, none⟩ _).frozen? ⟨R, 5, none⟩ = w.frozen? ⟨R, 5, none⟩).trans h.f5
  · simpa using h.lt
theorem Rdr.setBad {w : World} {R n : Nat} {s : ByteArray} {q : Rs} (h : Rdr w R s n q) : Rdr (w.setCell ⟨R, 4, none⟩ (.bool true)) R s n { q with bad := true } := by
  refine ⟨h.len, h.rest, ?_, ?_, ?_, ?_, ?_, ?_, ?_, ?_, ?_, ?_, ?_, ?_⟩
  · exact (World.cell?_setCell_other w ⟨R, 4, none⟩ ⟨R, 0, none⟩ _ (by simp)).trans h.c0
  · exact (World.cell?_setCell_other w ⟨R, 4, none⟩ ⟨R, 1, none⟩ _ (by simp)).trans h.c1
  · exact (World.cell?_setCell_other w ⟨R, 4, none⟩ ⟨R, 2, none⟩ _ (by simp)).trans h.c2
  · exact (World.cell?_setCell_other w ⟨R, 4, none⟩ ⟨R, 3, none⟩ _ (by simp)).trans h.c3
  · have := h.c4; have := h.f4; go_simp
  · exact (World.cell?_setCell_other w ⟨R, 4, none⟩ ⟨R, 5, none⟩ _ (by simp)).trans h.c5
  · exact (by simp : (w.setCell ⟨R, 4, none⟩ _).frozen? ⟨R, 1, none⟩ = w.frozen? ⟨R, 1, none⟩).trans h.f1
  · exact (by simp : (w.setCell ⟨R, 4, none⟩ _).frozen? ⟨R, 2, none⟩ = w.frozen? ⟨R, 2, none⟩).trans h.f2
  · exact (by simp : (w.setCell ⟨R, 4, none⟩ _).frozen? ⟨R, 3, none⟩ = w.frozen? ⟨R, 3, none⟩).trans h.f3
  · exact (by simp : (w.setCell ⟨R, 4, none⟩ _).frozen? ⟨R, 4, none⟩ = w.frozen? ⟨R, 4, none⟩).trans h.f4
  · exact (by simp : (w.setCell ⟨R, 4, none⟩ _).frozen? ⟨R, 5, none⟩ = w.frozen? ⟨R, 5, none⟩).trans h.f5
  · simpa using h.lt
theorem Rdr.setOver {w : World} {R n : Nat} {s : ByteArray} {q : Rs} (h : Rdr w R s n q) : Rdr (w.setCell ⟨R, 5, none⟩ (.bool true)) R s n { q with over := true } := by
  refine ⟨h.len, h.rest, ?_, ?_, ?_, ?_, ?_, ?_, ?_, ?_, ?_, ?_, ?_, ?_⟩
  · exact (World.cell?_setCell_other w ⟨R, 5, none⟩ ⟨R, 0, none⟩ _ (by simp)).trans h.c0
  · exact (World.cell?_setCell_other w ⟨R, 5, none⟩ ⟨R, 1, none⟩ _ (by simp)).trans h.c1
  · exact (World.cell?_setCell_other w ⟨R, 5, none⟩ ⟨R, 2, none⟩ _ (by simp)).trans h.c2
  · exact (World.cell?_setCell_other w ⟨R, 5, none⟩ ⟨R, 3, none⟩ _ (by simp)).trans h.c3
  · exact (World.cell?_setCell_other w ⟨R, 5, none⟩ ⟨R, 4, none⟩ _ (by simp)).trans h.c4
  · have := h.c5; have := h.f5; go_simp
  · exact (by simp : (w.setCell ⟨R, 5, none⟩ _).frozen? ⟨R, 1, none⟩ = w.frozen? ⟨R, 1, none⟩).trans h.f1
  · exact (by simp : (w.setCell ⟨R, 5, none⟩ _).frozen? ⟨R, 2, none⟩ = w.frozen? ⟨R, 2, none⟩).trans h.f2
  · exact (by simp : (w.setCell ⟨R, 5, none⟩ _).frozen? ⟨R, 3, none⟩ = w.frozen? ⟨R, 3, none⟩).trans h.f3
  · exact (by simp : (w.setCell ⟨R, 5, none⟩ _).frozen? ⟨R, 4, none⟩ = w.frozen? ⟨R, 4, none⟩).trans h.f4
  · exact (by simp : (w.setCell ⟨R, 5, none⟩ _).frozen? ⟨R, 5, none⟩ = w.frozen? ⟨R, 5, none⟩).trans h.f5
  · simpa using h.lt

/-- a piece is handed back: all of it new. -/
def RetP (R : Nat) (s : ByteArray) (w : World) (p : Pc) (q : Rs) (e : Ending) (w' : World) : Prop :=
  ∃ (b n : Nat), e = .returned (.pointer (some ⟨b, 0, none⟩)) ∧ p.In (w.heap.size - 1) w'.heap.size w' b ∧ GX R w w' ∧ Rdr w' R s n q
theorem node_new (w : World) (op g : Nat) (ps : List UInt8) (kids : Value) (z : Bool) : Node (w.alloc (.cells #[.int .i64 op, .string ⟨ps.toArray⟩, kids, .int .i64 g, .bool z] 62)) w.heap.size op ps kids g z := by
  refine ⟨?_, ?_, ?_, ?_, ?_⟩
  all_goals go_simp
theorem rkn_nil (lo hi : Nat) (w : World) : Rkn lo hi w (.slice none 0 0) [] := ⟨none, 0, rfl, Rd.nil _ _ _, fun h => absurd h (by simp)⟩
/-- a new piece without kids, in a world that has grown. -/
theorem RetP.leaf {R n : Nat} {s : ByteArray} {w w1 : World} {q : Rs} (x : GX R w w1) (h : Rdr w1 R s n q) (op : Nat) (ps : List UInt8) :
    RetP R s w (.leaf op ps) q (.returned (.pointer (some ⟨w1.heap.size, 0, none⟩))) (w1.alloc (.cells #[.int .i64 op, .string ⟨ps.toArray⟩, .slice none 0 0, .int .i64 0, .bool false] 62)) := by
  refine ⟨_, n, rfl, ?_, x.alloc _, h.gr (Gr.alloc (Gr.refl _) _)⟩
  simp only [Pc.In]
  have := x.size
  have := h.lt
  exact ⟨by omega, by simp, node_new w1 op 0 ps _ false⟩
theorem RetP.row0 {R n : Nat} {s : ByteArray} {w w1 : World} {q : Rs} (x : GX R w w1) (hR : R < w.heap.size) (h : Rdr w1 R s n q) :
    RetP R s w (.row .nil) q (.returned (.pointer (some ⟨w1.heap.size, 0, none⟩))) (w1.alloc (.cells #[.int .i64 10, .string ⟨#[]⟩, .slice none 0 0, .int .i64 0, .bool false] 62)) := by
  refine ⟨_, n, rfl, ?_, x.alloc _, h.gr (Gr.alloc (Gr.refl _) _)⟩
  simp only [Pc.In]
  have := x.size
  exact ⟨by omega, by simp, _, [], node_new w1 10 0 [] _ false, rkn_nil _ _ _, rfl⟩

set_option maxRecDepth 100000 in
set_option maxHeartbeats 3200000 in
theorem fail_any {w : World} {R n : Nat} {s : ByteArray} {q : Rs} (h : Rdr w R s n q) :
    Calls Try.prog 39 #[.pointer (some ⟨R, 0, none⟩)] w (RetP R s w (failS q).1 (failS q).2) := by
  have hx := RetP.row0 (GX.setCell (p := ⟨R, 4, none⟩) (GX.refl R w) (.inl rfl) (.bool true)) h.lt h.setBad
  have Hx := Lib.hid hx
  obtain ⟨c4, f4⟩ := And.intro h.c4 h.f4
  have hz := h.lt
  clear hx h
  go_enter Try.func39, Try.ntmps39
  go_wp2
  go_ret
  have h2 := Hx.out
  unfold failS
  simp at h2 ⊢
  exact h2
end Go.Proofs.Ytpcmdijgepbilaa
