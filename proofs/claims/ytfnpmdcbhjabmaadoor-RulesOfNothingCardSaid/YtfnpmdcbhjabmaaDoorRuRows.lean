/- Rows of archives and of texts that are a call's own. -/
import Derived.Test.YtfnpmdcbhjabmaaDoorRuMayP
import Derived.Test.YtfnpmdcbhjabmaaDoorAppend
namespace Go.Proofs.YtfnpmdcbhjabmaaDoor
set_option linter.unusedVariables false
set_option linter.unusedSimpArgs false
open Go.RowKit

/-- an owned row behind what leaves all old blocks alone. -/
theorem own_gr {w w' : World} {base : Nat} {e : TypeId} {size n : Nat} {v : Value} {xs : List Value} (h : w.ownsRow base e size v n xs) (g : Gr w w') : w'.ownsRow base e size v n xs := by
  obtain ⟨h1, ⟨hv, h0⟩ | ⟨g', cap, cur, hv, hb, hh, h2⟩⟩ := h
  · exact ⟨h1, .inl ⟨hv, h0⟩⟩
  · refine ⟨h1, .inr ⟨g', cap, cur, hv, hb, ?_, h2⟩⟩
    have hlt : g' < w.heap.size := by
      rcases Nat.lt_or_ge g' w.heap.size with hlt | hge
      · exact hlt
      · rw [Array.getElem?_eq_none hge] at hh; cases hh
    exact (Below.block g g' hlt).trans hh
/-- a new array that holds cells. -/
theorem Rd.new {W : World} {B size n : Nat} (hB : B = W.heap.size) (T : TypeId) (xs : List Value) (hl : xs.length = n * size) : Rd (W.alloc (.cells xs.toArray T)) size (some ⟨B, 0, none⟩) n xs := by
  subst hB
  refine ⟨hl, fun _ => ⟨_, rfl, by simp, fun j u hu => ?_⟩⟩
  have e : (⟨W.heap.size, 0, none⟩ : Addr).add j = ⟨W.heap.size, j, none⟩ := by
    unfold Addr.add; split
    · rename_i h; subst h; rfl
    · rw [Nat.zero_add]
  rw [e]
  exact (cell_of_row _ _ _ _ _ _ (heap_alloc_new W _)).trans (by simpa using hu)
theorem own_block {w : World} {base : Nat} {e : TypeId} {size n c : Nat} {A : Option Addr} {xs : List Value} (h : w.ownsRow base e size (.slice A n c) n xs) (h0 : 0 < n) : ∃ g, A = some ⟨g, 0, none⟩ ∧ base ≤ g ∧ g < w.heap.size ∧ ∀ j u, xs[j]? = some u → w.cell? ⟨g, j, none⟩ = some u := by
  have h' := h
  obtain ⟨_, ⟨hv, h0'⟩ | ⟨g, cap, cur, hv, hb, hh, _, _, _, _⟩⟩ := h'
  · omega
  · have hA : A = some ⟨g, 0, none⟩ := by injection hv
    subst hA
    refine ⟨g, rfl, hb, ?_, fun j u hu => ?_⟩
    · rcases Nat.lt_or_ge g w.heap.size with hlt | hge
      · exact hlt
      · rw [Array.getElem?_eq_none hge] at hh; cases hh
    · have := h.cells (g := g) rfl j u hu
      have e : (⟨g, 0, none⟩ : Addr).add j = ⟨g, j, none⟩ := by
        unfold Addr.add; split
        · rename_i h; subst h; rfl
        · rw [Nat.zero_add]
      first | exact this | (rw [e] at this; exact this)
def acells (l : List (Nat × Nat)) : List Value := l.flatMap fun a => [.int .i64 (a.1 : Nat), .int .i64 (a.2 : Nat)]
theorem acells_cons (a : Nat × Nat) (l : List (Nat × Nat)) : acells (a :: l) = .int .i64 (a.1 : Nat) :: .int .i64 (a.2 : Nat) :: acells l := rfl
theorem acells_append (l m : List (Nat × Nat)) : acells (l ++ m) = acells l ++ acells m := by simp [acells]
theorem acells_length (l : List (Nat × Nat)) : (acells l).length = l.length * 2 := by
  induction l with
  | nil => rfl
  | cons v l ih => rw [acells_cons]; simp only [List.length_cons, ih]; omega
theorem acells_one (l : List (Nat × Nat)) : ∀ u ∈ acells l, u.oneCell' = true := by
  intro u hu
  simp only [acells, List.mem_flatMap] at hu
  obtain ⟨v, _, hv⟩ := hu
  simp at hv
  rcases hv with rfl | rfl <;> rfl
theorem acells_at (l : List (Nat × Nat)) : ∀ (k : Nat) (h : k < l.length), (acells l)[k * 2]? = some (.int .i64 (l[k].1 : Nat)) ∧ (acells l)[k * 2 + 1]? = some (.int .i64 (l[k].2 : Nat)) := by
  induction l with
  | nil => intro k h; simp at h
  | cons v l ih =>
    intro k h
    match k with
    | 0 => exact ⟨rfl, rfl⟩
    | k + 1 =>
      obtain ⟨i1, i2⟩ := ih k (by simpa using h)
      rw [acells_cons, show (k + 1) * 2 = k * 2 + 1 + 1 by omega]
      exact ⟨i1, i2⟩
theorem Ra.own {w : World} {base : Nat} {e : TypeId} {n c : Nat} {A : Option Addr} {l : List (Nat × Nat)} (h : w.ownsRow base e 2 (.slice A n c) n (acells l)) : Ra w A l := fun h0 => by
  have hn : n = l.length := by have := h.1; rw [acells_length] at this; omega
  obtain ⟨g, e, -, hg, hc⟩ := own_block h (by omega)
  exact ⟨g, e, hg, fun k hk => ⟨hc _ _ (acells_at l k hk).1, hc _ _ (acells_at l k hk).2⟩⟩
theorem info_arch : (Tryd.prog.info? 44).map (fun i => (i.zero, i.size, i.bytes)) = some (some (.agg #[.int .i64 0, .int .i64 0]), 2, 16) := by kernel_rfl
theorem info_str : (Tryd.prog.info? 9).map (fun i => (i.zero, i.size, i.bytes)) = some (some (.string ByteArray.empty), 1, 16) := by kernel_rfl
theorem info_parts {P : Program} {e : TypeId} {z : Value} {size bytes : Nat} (h : (P.info? e).map (fun i => (i.zero, i.size, i.bytes)) = some (some z, size, bytes)) : ∃ i0, P.info? e = some i0 ∧ i0.zero = some z ∧ i0.size = size ∧ i0.bytes = bytes := by
  cases hi : P.info? e with
  | none => rw [hi] at h; cases h
  | some i =>
    rw [hi] at h
    simp only [Option.map_some, Option.some.injEq, Prod.mk.injEq] at h
    exact ⟨i, rfl, h.1, h.2.1, h.2.2⟩
def scells (m : List (List UInt8)) : List Value := m.map fun x => .string ⟨x.toArray⟩
theorem scells_append (l m : List (List UInt8)) : scells (l ++ m) = scells l ++ scells m := by simp [scells]
theorem scells_length (m : List (List UInt8)) : (scells m).length = m.length * 1 := by simp [scells]
theorem scells_one (m : List (List UInt8)) : ∀ u ∈ scells m, u.oneCell' = true := by
  intro u hu
  simp only [scells, List.mem_map] at hu
  obtain ⟨x, _, rfl⟩ := hu
  rfl
theorem Strs.own {w : World} {base : Nat} {e : TypeId} {n c : Nat} {A : Option Addr} {m : List (List UInt8)} (h : w.ownsRow base e 1 (.slice A n c) n (scells m)) (h0 : 0 < m.length) : ∃ g, A = some ⟨g, 0, none⟩ ∧ base ≤ g ∧ g < w.heap.size ∧ Strs w g m := by
  have hn : n = m.length := by have := h.1; rw [scells_length] at this; omega
  obtain ⟨g, e, hb, hg, hc⟩ := own_block h (by omega)
  exact ⟨g, e, hb, hg, fun k hk => hc k _ (by simp [scells, List.getElem?_map, List.getElem?_eq_getElem hk])⟩
theorem Strs.gr {w w' : World} {b : Nat} {m : List (List UInt8)} (h : Strs w b m) (hb : b < w.heap.size) (g : Gr w w') : Strs w' b m := fun k hk => (Below.cell g (p := ⟨b, k, none⟩) hb).trans (h k hk)
theorem ext_eq (s : ByteArray) (f k : Nat) : s.extract f k = ⟨((s.data.toList.drop f).take (k - f)).toArray⟩ := by
  apply ByteArray.ext
  apply Array.ext'
  rw [Lib.extract_data]
end Go.Proofs.YtfnpmdcbhjabmaaDoor
