/- The laws of chapter 1 that need no root, walked over the contracts. -/
import Derived.Test.YtafmbnpcdhpppaaFxMul
import Derived.Test.YtafmbnpcdhpppaaFxSub
import Derived.Test.YtafmbnpcdhpppaaFxAddR
import Derived.Deep.RegionHeld3
namespace Go.Proofs.Ytafmbnpcdhpppaa
open Go.RowKit

theorem known_vals : divV (intV 1) (intV 3) = ⟨true, 333333⟩ ∧ mulV (ofV (-1)) (ofV 500000) = ⟨true, -1⟩ := ⟨by rfl, by rfl⟩

set_option maxRecDepth 100000 in
set_option maxHeartbeats 800000 in
theorem known_any (w : World) : Calls Try.prog 18 #[] w fun e w' => e = .returned (.bool true) ∧ Gr w w' := by
  have k1 : (divV (intV 1) (intV 3)).ok = true := by rw [known_vals.1]
  have k2 : (divV (intV 1) (intV 3)).n = 333333 := by rw [known_vals.1]
  have k3 : (mulV (ofV (-1)) (ofV 500000)).ok = true := by rw [known_vals.2]
  have k4 : (mulV (ofV (-1)) (ofV 500000)).n = -1 := by rw [known_vals.2]
  go_enter Try.func18, Try.ntmps18
  go_wp2_with fail
  refine (int_any 1 _).mono ?_; rintro e w1 ⟨rfl, hg⟩
  go_wp2_with fail
  refine (int_any 3 _).mono ?_; rintro e w1 ⟨rfl, hg⟩
  go_wp2_with fail
  refine (div_any (intV 1) (intV 3) _).mono ?_; rintro e w1 ⟨rfl, hg⟩
  go_wp2_with fail
  refine (of_any (-1) _).mono ?_; rintro e w1 ⟨rfl, hg⟩
  go_wp2_with fail
  refine (of_any 500000 _).mono ?_; rintro e w1 ⟨rfl, hg⟩
  go_wp2_with fail
  refine (mul_any (ofV (-1)) (ofV 500000) _).mono ?_; rintro e w1 ⟨rfl, hg⟩
  go_wp2
  go_ret
  exact ⟨rfl, (by repeat (first | exact Gr.refl _ | refine Gr.alloc ?_ _ | refine Gr.drew ?_ | refine Gr.setCell ?_ (by first | (simp; done) | (simp; omega) | omega) _ | refine Gr.trans ?_ (by assumption)))⟩

/-- two boxed values are kept. -/
theorem Gr.two {W W1 : World} {B : Nat} {a b : Vl} (g : Gr W W1) (h : W.cell? ⟨B, 0, none⟩ = some (.bool a.ok) ∧ W.cell? ⟨B, 1, none⟩ = some (.int .i64 a.n) ∧ W.cell? ⟨B + 1, 0, none⟩ = some (.bool b.ok) ∧ W.cell? ⟨B + 1, 1, none⟩ = some (.int .i64 b.n) ∧ B + 1 < W.heap.size) :
    W1.cell? ⟨B, 0, none⟩ = some (.bool a.ok) ∧ W1.cell? ⟨B, 1, none⟩ = some (.int .i64 a.n) ∧ W1.cell? ⟨B + 1, 0, none⟩ = some (.bool b.ok) ∧ W1.cell? ⟨B + 1, 1, none⟩ = some (.int .i64 b.n) ∧ B + 1 < W1.heap.size := by
  obtain ⟨h0, h1, h2, h3, hz⟩ := h
  have z := g.size
  exact ⟨(g.cell (p := ⟨B, 0, none⟩) (by show B < _; omega)).trans h0, (g.cell (p := ⟨B, 1, none⟩) (by show B < _; omega)).trans h1, (g.cell (p := ⟨B + 1, 0, none⟩) hz).trans h2, (g.cell (p := ⟨B + 1, 1, none⟩) hz).trans h3, by omega⟩

set_option maxRecDepth 100000 in
set_option maxHeartbeats 800000 in
theorem law_FixedMulDiv (a b c : Int) (ha1 : -9223372036854775808 ≤ a) (ha2 : a ≤ 9223372036854775807) (hb1 : -9223372036854775808 ≤ b) (hb2 : b ≤ 9223372036854775807) (hc1 : -9223372036854775808 ≤ c) (hc2 : c ≤ 9223372036854775807) (w : World) :
    Calls Try.prog 4 #[.int .i64 a, .int .i64 b, .int .i64 c] w fun e w' => e = .returned (.bool true) ∧ Gr w w' := by
  have M := Lib.hid (muldiv_at a b c ha1 ha2 hb1 hb2 hc1 hc2)
  have N := Lib.hid (rmuldiv_at a b c ha1 ha2 hb1 hb2 hc1 hc2)
  go_enter Try.func4, Try.ntmps4
  go_wp2_with fail
  refine (M.out _).mono ?_; rintro e w1 ⟨rfl, hg⟩
  go_wp2_with fail
  refine (N.out _).mono ?_; rintro e w1 ⟨rfl, hg⟩
  go_wp2_with fail
  refine (known_any _).mono ?_; rintro e w1 ⟨rfl, hg⟩
  go_wp2
  go_ret
  exact ⟨rfl, (by repeat (first | exact Gr.refl _ | refine Gr.alloc ?_ _ | refine Gr.drew ?_ | refine Gr.setCell ?_ (by first | (simp; done) | (simp; omega) | omega) _ | refine Gr.trans ?_ (by assumption)))⟩

set_option maxRecDepth 100000 in
set_option maxHeartbeats 1600000 in
theorem law_FixedMuls (a b : Vl) (w : World) :
    Calls Try.prog 5 #[.agg #[.bool a.ok, .int .i64 a.n], .agg #[.bool b.ok, .int .i64 b.n]] w fun e w' => e = .returned (.bool true) ∧ Gr w w' := by
  go_enter Try.func5, Try.ntmps5
  go_wp2
  have es : ((w.alloc (.cells #[.bool a.ok, .int .i64 a.n] 23)).alloc (.cells #[.bool b.ok, .int .i64 b.n] 23)).cell? ⟨w.heap.size, 0, none⟩ = some (.bool a.ok) ∧ ((w.alloc (.cells #[.bool a.ok, .int .i64 a.n] 23)).alloc (.cells #[.bool b.ok, .int .i64 b.n] 23)).cell? ⟨w.heap.size, 1, none⟩ = some (.int .i64 a.n) ∧ ((w.alloc (.cells #[.bool a.ok, .int .i64 a.n] 23)).alloc (.cells #[.bool b.ok, .int .i64 b.n] 23)).cell? ⟨w.heap.size + 1, 0, none⟩ = some (.bool b.ok) ∧ ((w.alloc (.cells #[.bool a.ok, .int .i64 a.n] 23)).alloc (.cells #[.bool b.ok, .int .i64 b.n] 23)).cell? ⟨w.heap.size + 1, 1, none⟩ = some (.int .i64 b.n) ∧ w.heap.size + 1 < ((w.alloc (.cells #[.bool a.ok, .int .i64 a.n] 23)).alloc (.cells #[.bool b.ok, .int .i64 b.n] 23)).heap.size := by
    refine ⟨?_, ?_, ?_, ?_, ?_⟩ <;> go_simp
  have hgr : Gr w ((w.alloc (.cells #[.bool a.ok, .int .i64 a.n] 23)).alloc (.cells #[.bool b.ok, .int .i64 b.n] 23)) := (by repeat (first | exact Gr.refl _ | refine Gr.alloc ?_ _ | refine Gr.drew ?_ | refine Gr.setCell ?_ (by first | (simp; done) | (simp; omega) | omega) _ | refine Gr.trans ?_ (by assumption)))
  go_region_held3 (fun W => W.cell? ⟨w.heap.size, 0, none⟩ = some (.bool a.ok) ∧ W.cell? ⟨w.heap.size, 1, none⟩ = some (.int .i64 a.n) ∧ W.cell? ⟨w.heap.size + 1, 0, none⟩ = some (.bool b.ok) ∧ W.cell? ⟨w.heap.size + 1, 1, none⟩ = some (.int .i64 b.n) ∧ w.heap.size + 1 < W.heap.size) (first | exact es | go_keep)
    (first
      | (go_at_call 21; refine (mul_any a b _).mono ?_; rintro e w1 ⟨rfl, hg⟩; have es := Gr.two hg es)
      | (go_at_call 22; refine (rmul_any a b _).mono ?_; rintro e w1 ⟨rfl, hg⟩; have es := Gr.two hg es)
      | (go_at_call 23; refine (div_any a b _).mono ?_; rintro e w1 ⟨rfl, hg⟩; have es := Gr.two hg es)
      | (go_at_call 24; refine (rdiv_any a b _).mono ?_; rintro e w1 ⟨rfl, hg⟩; have es := Gr.two hg es)
      | (go_at_call 18; refine (known_any _).mono ?_; rintro e w1 ⟨rfl, hg⟩; have es := Gr.two hg es))
  go_wp2
  go_ret
  exact ⟨rfl, (by repeat (first | exact Gr.refl _ | refine Gr.alloc ?_ _ | refine Gr.drew ?_ | refine Gr.setCell ?_ (by first | (simp; done) | (simp; omega) | omega) _ | refine Gr.trans ?_ (by assumption)))⟩

set_option maxRecDepth 100000 in
set_option maxHeartbeats 1600000 in
theorem law_FixedSubs (a b : Vl) (w : World) :
    Calls Try.prog 10 #[.agg #[.bool a.ok, .int .i64 a.n], .agg #[.bool b.ok, .int .i64 b.n]] w fun e w' => e = .returned (.bool true) ∧ Gr w w' := by
  go_enter Try.func10, Try.ntmps10
  go_wp2
  have es : ((w.alloc (.cells #[.bool a.ok, .int .i64 a.n] 23)).alloc (.cells #[.bool b.ok, .int .i64 b.n] 23)).cell? ⟨w.heap.size, 0, none⟩ = some (.bool a.ok) ∧ ((w.alloc (.cells #[.bool a.ok, .int .i64 a.n] 23)).alloc (.cells #[.bool b.ok, .int .i64 b.n] 23)).cell? ⟨w.heap.size, 1, none⟩ = some (.int .i64 a.n) ∧ ((w.alloc (.cells #[.bool a.ok, .int .i64 a.n] 23)).alloc (.cells #[.bool b.ok, .int .i64 b.n] 23)).cell? ⟨w.heap.size + 1, 0, none⟩ = some (.bool b.ok) ∧ ((w.alloc (.cells #[.bool a.ok, .int .i64 a.n] 23)).alloc (.cells #[.bool b.ok, .int .i64 b.n] 23)).cell? ⟨w.heap.size + 1, 1, none⟩ = some (.int .i64 b.n) ∧ w.heap.size + 1 < ((w.alloc (.cells #[.bool a.ok, .int .i64 a.n] 23)).alloc (.cells #[.bool b.ok, .int .i64 b.n] 23)).heap.size := by
    refine ⟨?_, ?_, ?_, ?_, ?_⟩ <;> go_simp
  have hgr : Gr w ((w.alloc (.cells #[.bool a.ok, .int .i64 a.n] 23)).alloc (.cells #[.bool b.ok, .int .i64 b.n] 23)) := (by repeat (first | exact Gr.refl _ | refine Gr.alloc ?_ _ | refine Gr.drew ?_ | refine Gr.setCell ?_ (by first | (simp; done) | (simp; omega) | omega) _ | refine Gr.trans ?_ (by assumption)))
  go_region_held3 (fun W => W.cell? ⟨w.heap.size, 0, none⟩ = some (.bool a.ok) ∧ W.cell? ⟨w.heap.size, 1, none⟩ = some (.int .i64 a.n) ∧ W.cell? ⟨w.heap.size + 1, 0, none⟩ = some (.bool b.ok) ∧ W.cell? ⟨w.heap.size + 1, 1, none⟩ = some (.int .i64 b.n) ∧ w.heap.size + 1 < W.heap.size) (first | exact es | go_keep)
    (first
      | (go_at_call 30; refine (sub_any a b _).mono ?_; rintro e w1 ⟨rfl, hg⟩; have es := Gr.two hg es)
      | (go_at_call 31; refine (rsub_any a b _).mono ?_; rintro e w1 ⟨rfl, hg⟩; have es := Gr.two hg es)
      | (go_at_call 29; refine (abs_any a _).mono ?_; rintro e w1 ⟨rfl, hg⟩; have es := Gr.two hg es)
      | (go_at_call 32; refine (rabs_any a _).mono ?_; rintro e w1 ⟨rfl, hg⟩; have es := Gr.two hg es)
      | (go_at_call 33; refine (less_any a b _).mono ?_; rintro e w1 ⟨rfl, hg⟩; have es := Gr.two hg es)
      | (go_at_call 34; refine (rless_any a b _).mono ?_; rintro e w1 ⟨rfl, hg⟩; have es := Gr.two hg es)
      | (go_at_call 18; refine (known_any _).mono ?_; rintro e w1 ⟨rfl, hg⟩; have es := Gr.two hg es))
  go_wp2
  go_ret
  exact ⟨rfl, (by repeat (first | exact Gr.refl _ | refine Gr.alloc ?_ _ | refine Gr.drew ?_ | refine Gr.setCell ?_ (by first | (simp; done) | (simp; omega) | omega) _ | refine Gr.trans ?_ (by assumption)))⟩

end Go.Proofs.Ytafmbnpcdhpppaa
