/- known of chapter 11: one or more. -/
import Derived.Test.YtpcmdijgepbilaaRxComp
namespace Go.Proofs.Ytpcmdijgepbilaa
set_option linter.unusedVariables false
set_option linter.unusedSimpArgs false
open Go.RowKit

theorem Rd.cell0 {w : World} {size n g : Nat} {xs : List Value} (h : Rd w size (some ⟨g, 0, none⟩) n xs) (hn : 0 < n) (j : Nat) (u : Value) (hu : xs[j]? = some u) : w.cell? ⟨g, j, none⟩ = some u := by
  obtain ⟨ad, e, _, hc⟩ := h.2 hn
  injection e with e
  subst e
  have := hc j u hu
  unfold Addr.add at this
  split at this
  · rename_i h0; subst h0; exact this
  · simpa using this
theorem comp_a (w : World) : Calls Try.prog 7 #[.string ⟨#[97, 43]⟩] w fun e w' => ∃ g c, e = .returned (.tuple #[.agg #[.int .i64 0, .slice (some ⟨g, 0, none⟩) 5 c], .int .i64 0]) ∧ Gr w w' ∧ w.heap.size ≤ g ∧ g < w'.heap.size ∧ Rd w' 4 (some ⟨g, 0, none⟩) 5 (icells [⟨4, 0, 0, []⟩, ⟨1, 0, 0, [97, 97]⟩, ⟨2, 1, 3, []⟩, ⟨4, 1, 0, []⟩, ⟨7, 0, 0, []⟩]) := by
  refine (compile_any ⟨#[97, 43]⟩ (by decide) w).mono ?_
  rintro e w' ⟨A, c, he, hr, hg, hA⟩
  have h0 : grpX (⟨#[97, 43]⟩ : ByteArray).data.toList = 0 := by kernel_rfl
  have h1 : codeY (⟨#[97, 43]⟩ : ByteArray).data.toList = [⟨4, 0, 0, []⟩, ⟨1, 0, 0, [97, 97]⟩, ⟨2, 1, 3, []⟩, ⟨4, 1, 0, []⟩, ⟨7, 0, 0, []⟩] := by kernel_rfl
  have h2 : errX (⟨#[97, 43]⟩ : ByteArray).data.toList = 0 := by kernel_rfl
  rw [h0, h1, h2] at he
  rw [h1] at hr
  obtain ⟨ad, rfl, hlt, hc⟩ := hr.2 (by decide)
  obtain ⟨e1, e2⟩ := hA ad rfl
  rw [e1] at he hr
  exact ⟨ad.block, c, he, hg, e2, hlt, hr⟩
set_option maxRecDepth 100000 in
set_option maxHeartbeats 3200000 in
theorem known_any (w : World) : Calls Try.prog 9 #[] w fun e w' => e = .returned (.bool true) ∧ Gr w w' := by
  go_enter Try.func9, Try.ntmps9
  go_upto_region 2 with (go_at_call 7; refine (comp_a w).mono ?_; rintro e w1 ⟨g, c, rfl, hg, hgl, hgz, hr⟩)
  have a0 := hr.cell0 (by decide) 4 _ rfl
  have a1 := hr.cell0 (by decide) 5 _ rfl
  have a2 := hr.cell0 (by decide) 6 _ rfl
  have a3 := hr.cell0 (by decide) 7 _ rfl
  have b0 := hr.cell0 (by decide) 8 _ rfl
  have b1 := hr.cell0 (by decide) 9 _ rfl
  have b2 := hr.cell0 (by decide) 10 _ rfl
  have b3 := hr.cell0 (by decide) 11 _ rfl
  clear hr
  go_wp2
  go_ret
  exact ⟨rfl, hg.alloc _⟩
end Go.Proofs.Ytpcmdijgepbilaa
