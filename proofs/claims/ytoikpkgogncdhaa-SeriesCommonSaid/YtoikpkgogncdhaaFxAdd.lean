/- Contracts of Add, of the program and of the reference: the loop over a slice of values. -/
import Derived.Test.YtoikpkgogncdhaaFxTwo
import Derived.Test.YtoikpkgogncdhaaFxRead
import Derived.Outline
import Derived.Lib.Hide
namespace Go.Proofs.Ytoikpkgogncdhaa
open Go.RowKit

theorem addV_take {l : List Vl} {k : Nat} (h : k < l.length) : addV (l.take (k + 1)) = sumV (addV (l.take k)) l[k] := by
  unfold addV
  rw [List.take_succ_eq_append_getElem h, List.foldl_append]
  rfl

set_option maxHeartbeats 400000 in
theorem add_any (A : Option Addr) (c : Nat) (l : List Vl) (w : World) (hl : l.length ≤ maxLen) (hr : Rv w A l) :
    Calls Try.prog 53 #[.slice A l.length c] w fun e w' => e = .returned (.agg #[.bool (addV l).ok, .int .i64 (addV l).n]) ∧ Gr w w' := by
  unfold maxLen at hl
  go_enter Try.func53, Try.ntmps53
  go_wp2_with fail
  refine (of_any 0 _).mono ?_; rintro e w1 ⟨rfl, hg⟩; obtain ⟨hc, hf⟩ := hg.cells; have hz := hg.size; (try simp at hz); have z0 : w.heap.size < w1.heap.size := (by omega)
  go_wp2
  go_loopw [9] (fun i wr => ∃ k : Nat, k ≤ l.length ∧ i = .int .i64 k ∧ Gr w wr ∧ w1.heap.size < wr.heap.size ∧
      wr.cell? ⟨w.heap.size, 0, none⟩ = some (.bool false) ∧ wr.cell? ⟨w.heap.size, 1, none⟩ = some (.int .i64 0) ∧ wr.frozen? ⟨w.heap.size, 0, none⟩ = false ∧ wr.frozen? ⟨w.heap.size, 1, none⟩ = false ∧
      wr.cell? ⟨w1.heap.size, 0, none⟩ = some (.bool (addV (l.take k)).ok) ∧ wr.cell? ⟨w1.heap.size, 1, none⟩ = some (.int .i64 (addV (l.take k)).n) ∧
      wr.frozen? ⟨w1.heap.size, 0, none⟩ = false ∧ wr.frozen? ⟨w1.heap.size, 1, none⟩ = false)
    (fun i _ => l.length - (intOf i).toNat)
  case atStart => 
    exact ⟨0, Nat.zero_le _, rfl, (by repeat (first | exact Gr.refl _ | refine Gr.alloc ?_ _ | refine Gr.drew ?_ | refine Gr.setCell ?_ (by first | (simp; done) | (simp; omega) | omega) _ | refine Gr.trans ?_ (by assumption))), by simp, by go_simp, by go_simp, by go_simp, by go_simp, by go_simp; rfl, by go_simp; rfl, by go_simp, by go_simp⟩
  case round =>
    obtain ⟨k, hk, rfl, hgr, hzr, r0, r1, rf0, rf1, a0, a1, af0, af1⟩ := hrel
    by_cases hlt : k < l.length
    · obtain ⟨ad, rfl, hb, hx0, hx1⟩ := (hr.gr hgr).at hlt
      have ht := addV_take hlt
      have Ht := Lib.hid ht; clear ht
      go_wp2_with fail
      refine (sum_any (addV (l.take k)) l[k] _).mono ?_; rintro e w2 ⟨rfl, hg2⟩; obtain ⟨hc2, hf2⟩ := hg2.cells; have hz2 := hg2.size; (try simp at hz2)
      have y0 : w.heap.size < wr.heap.size + 1 := (by omega)
      have y1 : w1.heap.size < wr.heap.size + 1 := (by omega)
      have y2 : w1.heap.size < w2.heap.size := (by omega)
      have y3 : w.heap.size < wr.heap.size := (by omega)
      go_wp2
      go_roundw
      case rel =>
        refine ⟨k + 1, by omega, by go_num, (by repeat (first | exact Gr.refl _ | refine Gr.alloc ?_ _ | refine Gr.drew ?_ | refine Gr.setCell ?_ (by first | (simp; done) | (simp; omega) | omega) _ | refine Gr.trans ?_ (by assumption))), by simp; omega, by go_simp, by go_simp, by go_simp, by go_simp, ?_, ?_, by go_simp, by go_simp⟩
        · rw [Ht.out]; go_simp
        · rw [Ht.out]; go_simp
      case measure => simp [intOf]; omega
    · have hkk : k = l.length := by omega
      subst hkk
      rw [List.take_length] at a0 a1
      go_wp2
      exact bodyPost_ret (v := .agg #[.bool (addV l).ok, .int .i64 (addV l).n]) (by simp [results, Try.results53, go_sem, *]) rfl ⟨rfl, (by repeat (first | exact Gr.refl _ | refine Gr.alloc ?_ _ | refine Gr.drew ?_ | refine Gr.setCell ?_ (by first | (simp; done) | (simp; omega) | omega) _ | refine Gr.trans ?_ (by assumption)))⟩
end Go.Proofs.Ytoikpkgogncdhaa
