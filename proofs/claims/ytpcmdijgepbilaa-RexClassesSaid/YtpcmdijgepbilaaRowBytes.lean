/- How a slice of bytes that comes in as an argument is opened for the walks. -/
import Derived.Test.YtpcmdijgepbilaaRowKitM
import Derived.Test.YtpcmdijgepbilaaRxPairs
import Derived.Deep.Slices
namespace Go.Proofs.Ytpcmdijgepbilaa
open Go.ChangeShapes Go.WideShapes Go.ChangeAt Go.RowKit Go.Joins

theorem byte_lo {n : Int} (h : (Lit.int .u8 n).wf = true) : 0 ≤ n := by
  simp [Lit.wf, IntKind.min, IntKind.max, IntKind.signed, IntKind.bits] at h; omega
theorem byte_hi {n : Int} (h : (Lit.int .u8 n).wf = true) : n < 256 := by
  simp [Lit.wf, IntKind.min, IntKind.max, IntKind.signed, IntKind.bits] at h; omega
section
variable {H : Type} {enc : TypeId × Value → H} {w : World} {held : Bool}
theorem choose_u8 {m : Nat} {P : Nat → UInt8 → Prop} (h : ∀ i, i < m → ∃ a, P i a) : ∃ l : List UInt8, l.length = m ∧ ∀ i (hi : i < l.length), P i l[i] := by
  induction m with
  | zero => exact ⟨[], rfl, fun i hi => absurd hi (by simp)⟩
  | succ m ih =>
    obtain ⟨l, hl, hp⟩ := ih (fun i hi => h i (by omega))
    obtain ⟨a, ha⟩ := h m (by omega)
    refine ⟨l ++ [a], by simp [hl], fun i hi => ?_⟩
    by_cases hlt : i < l.length
    · rw [List.getElem_append_left hlt]; exact hp i hlt
    · obtain rfl : i = m := by simp at hi; omega
      simpa [hl] using ha
theorem open_bytes {r : Reach} {b0 : Nat} {v : Value} {d : DataW H} {p : List MemPlace} (hv : Value.okWide Try.prog w r b0 39 v)
    (h : DataW.Trod enc Try.prog w 0 (fun _ => true) held 39 v d p) : ∃ (A : Option Addr) (l : List UInt8) (c : Nat), v = .slice A l.length c ∧ l.length ≤ maxLen ∧ l.length ≤ c ∧ Rd w 1 A l.length (bcells l) := by
  obtain ⟨a0, len, cap, rfl⟩ := okWide_slice Try.underlying39 hv
  obtain ⟨fuel, hf⟩ := h
  rcases Go.Deep.open_slice1 Try.underlying39 (by kernel_rfl) hf with ⟨hcs, _⟩ | ⟨a, len', cap', m, n, V, D, Pl, hcs, hb, hl, hm, hmm, hx, hi⟩
  · simp [Value.cells] at hcs
    obtain ⟨rfl, rfl, rfl⟩ := hcs
    exact ⟨none, [], 0, rfl, Nat.zero_le _, Nat.zero_le _, Rd.nil _ _ _⟩
  · simp [Value.cells] at hcs
    obtain ⟨rfl, rfl, rfl⟩ := hcs
    simp at hmm
    subst hmm
    have each : ∀ i, i < len → ∃ b : UInt8, w.cell? (a.add i) = some (.int .u8 b.toNat) := by
      intro i hi'
      obtain ⟨h0, t0⟩ := hi i (by omega)
      obtain ⟨z, e0, _, wz⟩ := DataW.trod_int Try.underlying5 t0
      simp at e0
      rw [e0] at h0
      have z0 := byte_lo wz
      have z1 := byte_hi wz
      refine ⟨UInt8.ofNat z.toNat, ?_⟩
      have e : ((UInt8.ofNat z.toNat).toNat : Int) = z := by simp; omega
      rw [e]
      exact h0
    obtain ⟨xs, hll, hp⟩ := choose_u8 each
    refine ⟨some a, xs, _, by rw [hll], by omega, by omega, ⟨by simp [bcells], fun hn => ⟨a, rfl, ?_, ?_⟩⟩⟩
    · have h0 := hp 0 hn
      have e : (a.add 0).block = a.block := add_blk _ _
      rw [← e]
      exact World.block_lt_of_cell? w _ h0
    · intro j u hu
      unfold bcells at hu
      rw [List.getElem?_map] at hu
      obtain ⟨s, hs, rfl⟩ := Option.map_eq_some_iff.1 hu
      obtain ⟨hj, rfl⟩ := List.getElem?_eq_some_iff.1 hs
      exact hp j hj
end
end Go.Proofs.Ytpcmdijgepbilaa
