/- How a slice of texts that comes in as an argument is opened for the walks. -/
import Derived.Test.YtoikpkgogncdhaaRowKit
import Derived.Test.YtoikpkgogncdhaaSrLabel
import Derived.Deep.Slices
namespace Go.Proofs.Ytoikpkgogncdhaa
set_option linter.unusedVariables false
set_option linter.unusedSimpArgs false
open Go.ChangeShapes Go.WideShapes Go.ChangeAt Go.RowKit Go.Joins

section
variable {H : Type} {enc : TypeId × Value → H} {w : World} {held : Bool}
theorem choose_ba {m : Nat} {P : Nat → ByteArray → Prop} (h : ∀ i, i < m → ∃ a, P i a) : ∃ l : List ByteArray, l.length = m ∧ ∀ i (hi : i < l.length), P i l[i] := by
  induction m with
  | zero => exact ⟨[], rfl, fun i hi => absurd hi (by simp)⟩
  | succ m ih =>
    obtain ⟨l, hl, hp⟩ := ih (fun i hi => h i (by omega))
    obtain ⟨a, ha⟩ := h m (by omega)
    refine ⟨l ++ [a], by simp [hl], fun i hi => ?_⟩
    by_cases hlt : i < l.length
    · rw [List.getElem_append_left hlt]; exact hp i hlt
    · obtain rfl : i = m := by simp at hi; omega
      simpa [hl] using ha
theorem open_strings {r : Reach} {b0 : Nat} {v : Value} {d : DataW H} {p : List MemPlace} (hv : Value.okWide Try.prog w r b0 46 v)
    (h : DataW.Trod enc Try.prog w 0 (fun _ => true) held 46 v d p) : ∃ (A : Option Addr) (xs : List ByteArray) (c : Nat), v = .slice A xs.length c ∧ xs.length ≤ c ∧ Rt w A xs := by
  obtain ⟨a0, len, cap, rfl⟩ := okWide_slice Try.underlying46 hv
  obtain ⟨fuel, hf⟩ := h
  rcases Go.Deep.open_slice1 Try.underlying46 (by kernel_rfl) hf with ⟨hcs, _⟩ | ⟨a, len', cap', m, n, V, D, Pl, hcs, hb, hl, hm, hmm, hx, hi⟩
  · simp [Value.cells] at hcs
    obtain ⟨rfl, rfl, rfl⟩ := hcs
    exact ⟨none, [], 0, rfl, Nat.zero_le _, Rd.nil _ _ _⟩
  · simp [Value.cells] at hcs
    obtain ⟨rfl, rfl, rfl⟩ := hcs
    simp at hmm
    subst hmm
    have each : ∀ i, i < len → ∃ s : ByteArray, w.cell? (a.add i) = some (.string s) := by
      intro i hi'
      obtain ⟨h0, t0⟩ := hi i (by omega)
      obtain ⟨s, e0, _, _⟩ := DataW.trod_string Try.underlying9 t0
      simp at e0
      rw [e0] at h0
      exact ⟨s, h0⟩
    obtain ⟨xs, hll, hp⟩ := choose_ba each
    refine ⟨some a, xs, _, by rw [hll], by omega, ⟨by simp, fun hn => ⟨a, rfl, ?_, ?_⟩⟩⟩
    · have h0 := hp 0 hn
      have e : (a.add 0).block = a.block := add_blk _ _
      rw [← e]
      exact World.block_lt_of_cell? w _ h0
    · intro j u hu
      rw [List.getElem?_map] at hu
      obtain ⟨s, hs, rfl⟩ := Option.map_eq_some_iff.1 hu
      obtain ⟨hj, rfl⟩ := List.getElem?_eq_some_iff.1 hs
      exact hp j hj
end
end Go.Proofs.Ytoikpkgogncdhaa
