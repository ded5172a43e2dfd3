/- The law FixedBack of chapter 1, walked. -/
import Derived.Test.YtafmbnpcdhpppaaFxLaw2
namespace Go.Proofs.Ytafmbnpcdhpppaa
open Go.RowKit

theorem none_kn : knB ⟨false, 0⟩ = false := rfl
theorem kn_eq {a : Vl} (h : knB a = true) : ofV a.n = a := by
  have e := ofV_in (knB_lo h) (knB_hi h)
  rw [e]
  have := knB_ok h
  obtain ⟨ok, n⟩ := a
  simp at this
  rw [this]
theorem zero_kn : knB (ofV 0) = true := by rfl
theorem sum_zero (a : Vl) : sumV (ofV 0) a = bif knB a then a else ⟨false, 0⟩ := by
  unfold sumV
  rw [zero_kn]
  cases h : knB a
  · rfl
  · simp only [Bool.and_self, cond_true]
    rw [show (ofV 0).n = 0 from rfl, Int.zero_add, kn_eq h]
theorem sum_none (b : Vl) : sumV ⟨false, 0⟩ b = ⟨false, 0⟩ := by unfold sumV; rw [none_kn]; rfl
theorem add_two_eq (a b : Vl) : addV [a, b] = sumV a b := by
  show sumV (sumV (ofV 0) a) b = _
  rw [sum_zero]
  cases h : knB a
  · rw [cond_false, sum_none]; unfold sumV; rw [h]; rfl
  · rfl
theorem sum_comm (a b : Vl) : sumV a b = sumV b a := by unfold sumV; rw [Bool.and_comm, Int.add_comm]
theorem sum_no {a b : Vl} (h : (sumV a b).ok = false) : (sumV a b).n = 0 := by
  unfold sumV at h ⊢
  cases hk : (knB a && knB b)
  · rfl
  · rw [hk] at h
    simp only [cond_true] at h ⊢
    unfold ofV at h ⊢
    cases hb : isB ⟨true, a.n + b.n⟩
    · rfl
    · rw [hb] at h; cases h
theorem sum_back {a b : Vl} (h : (sumV a b).ok = true) : subV (sumV a b) b = a := by
  unfold sumV at h ⊢
  cases hk : (knB a && knB b)
  · rw [hk] at h; cases h
  · rw [hk] at h
    simp only [cond_true] at h ⊢
    have ha : knB a = true := by simp at hk; exact hk.1
    have hb : knB b = true := by simp at hk; exact hk.2
    have hs : knB (ofV (a.n + b.n)) = true := by rw [ofV_ok_kn]; exact h
    have hn : (ofV (a.n + b.n)).n = a.n + b.n := by
      unfold ofV at h ⊢
      cases hb : isB ⟨true, a.n + b.n⟩
      · rw [hb] at h; cases h
      · rfl
    unfold subV
    rw [hs, hb, hn]
    simp only [Bool.and_self, cond_true]
    rw [show a.n + b.n - b.n = a.n from by omega, kn_eq ha]

/-- a new array that holds values. -/
theorem Rv.new {W : World} {B : Nat} (hB : B = W.heap.size) (T : TypeId) (l : List Vl) : Rv (W.alloc (.cells (vcells l).toArray T)) (some ⟨B, 0, none⟩) l := by
  subst hB
  refine ⟨vcells_length l, fun _ => ⟨_, rfl, by simp, fun j u hu => ?_⟩⟩
  have e : (⟨W.heap.size, 0, none⟩ : Addr).add j = ⟨W.heap.size, j, none⟩ := by
    unfold Addr.add; split
    · rename_i h; subst h; rfl
    · rw [Nat.zero_add]
  rw [e]
  exact (cell_of_row _ _ _ _ _ _ (heap_alloc_new W _)).trans (by simpa using hu)
theorem Rv.drew {W : World} {A : Option Addr} {l : List Vl} (h : Rv W A l) : Rv W.drew A l := h
theorem add_pair (a b : Vl) (B c : Nat) (W : World) (hr : Rv W (some ⟨B, 0, none⟩) [a, b]) :
    Calls Try.prog 27 #[.slice (some ⟨B, 0, none⟩) 2 c] W fun e w' => e = .returned (.agg #[.bool (sumV a b).ok, .int .i64 (sumV a b).n]) ∧ Gr W w' := by
  have h := add_any (some ⟨B, 0, none⟩) c [a, b] W (Nat.le_of_lt (by unfold maxLen; simp)) hr
  rw [add_two_eq] at h
  exact h
/-- two boxed values and the sum are kept. -/
theorem Gr.three {W W1 : World} {B C : Nat} {a b s : Vl} (g : Gr W W1) (h : W.cell? ⟨B, 0, none⟩ = some (.bool a.ok) ∧ W.cell? ⟨B, 1, none⟩ = some (.int .i64 a.n) ∧ W.cell? ⟨B + 1, 0, none⟩ = some (.bool b.ok) ∧ W.cell? ⟨B + 1, 1, none⟩ = some (.int .i64 b.n) ∧ W.cell? ⟨C, 0, none⟩ = some (.bool s.ok) ∧ W.cell? ⟨C, 1, none⟩ = some (.int .i64 s.n) ∧ B + 1 < W.heap.size ∧ C < W.heap.size) :
    W1.cell? ⟨B, 0, none⟩ = some (.bool a.ok) ∧ W1.cell? ⟨B, 1, none⟩ = some (.int .i64 a.n) ∧ W1.cell? ⟨B + 1, 0, none⟩ = some (.bool b.ok) ∧ W1.cell? ⟨B + 1, 1, none⟩ = some (.int .i64 b.n) ∧ W1.cell? ⟨C, 0, none⟩ = some (.bool s.ok) ∧ W1.cell? ⟨C, 1, none⟩ = some (.int .i64 s.n) ∧ B + 1 < W1.heap.size ∧ C < W1.heap.size := by
  obtain ⟨h0, h1, h2, h3, h4, h5, hz, hz'⟩ := h
  have z := g.size
  exact ⟨(g.cell (p := ⟨B, 0, none⟩) (by show B < _; omega)).trans h0, (g.cell (p := ⟨B, 1, none⟩) (by show B < _; omega)).trans h1, (g.cell (p := ⟨B + 1, 0, none⟩) hz).trans h2, (g.cell (p := ⟨B + 1, 1, none⟩) hz).trans h3, (g.cell (p := ⟨C, 0, none⟩) hz').trans h4, (g.cell (p := ⟨C, 1, none⟩) hz').trans h5, by omega, by omega⟩

theorem add_pair_rev (a b : Vl) (B c : Nat) (W : World) (hr : Rv W (some ⟨B, 0, none⟩) [b, a]) :
    Calls Try.prog 27 #[.slice (some ⟨B, 0, none⟩) 2 c] W fun e w' => e = .returned (.agg #[.bool (sumV a b).ok, .int .i64 (sumV a b).n]) ∧ Gr W w' := by
  rw [sum_comm a b]; exact add_pair b a B c W hr

set_option maxRecDepth 100000 in
set_option maxHeartbeats 3200000 in
theorem law_FixedBack (a b : Vl) (w : World) :
    Calls Try.prog 11 #[.agg #[.bool a.ok, .int .i64 a.n], .agg #[.bool b.ok, .int .i64 b.n]] w fun e w' => e = .returned (.bool true) ∧ Gr w w' := by
  go_enter Try.func11, Try.ntmps11
  go_wp2_with fail
  refine (add_pair a b _ _ _ (Rv.new (by simp) _ [a, b])).mono ?_; rintro e w1 ⟨rfl, hg⟩; obtain ⟨hc, hf⟩ := hg.cells; have hz := hg.size; (try simp at hz); have z0 : w.heap.size < w1.heap.size := (by omega); have z1 : w.heap.size + 1 < w1.heap.size := (by omega)
  go_wp2
  obtain ⟨C, hC⟩ : ∃ C, C = w1.heap.size := ⟨_, rfl⟩
  rw [← hC]
  have es : (w1.alloc (.cells #[.bool (sumV a b).ok, .int .i64 (sumV a b).n] 23)).cell? ⟨w.heap.size, 0, none⟩ = some (.bool a.ok) ∧ (w1.alloc (.cells #[.bool (sumV a b).ok, .int .i64 (sumV a b).n] 23)).cell? ⟨w.heap.size, 1, none⟩ = some (.int .i64 a.n) ∧ (w1.alloc (.cells #[.bool (sumV a b).ok, .int .i64 (sumV a b).n] 23)).cell? ⟨w.heap.size + 1, 0, none⟩ = some (.bool b.ok) ∧ (w1.alloc (.cells #[.bool (sumV a b).ok, .int .i64 (sumV a b).n] 23)).cell? ⟨w.heap.size + 1, 1, none⟩ = some (.int .i64 b.n) ∧ (w1.alloc (.cells #[.bool (sumV a b).ok, .int .i64 (sumV a b).n] 23)).cell? ⟨C, 0, none⟩ = some (.bool (sumV a b).ok) ∧ (w1.alloc (.cells #[.bool (sumV a b).ok, .int .i64 (sumV a b).n] 23)).cell? ⟨C, 1, none⟩ = some (.int .i64 (sumV a b).n) ∧ w.heap.size + 1 < (w1.alloc (.cells #[.bool (sumV a b).ok, .int .i64 (sumV a b).n] 23)).heap.size ∧ C < (w1.alloc (.cells #[.bool (sumV a b).ok, .int .i64 (sumV a b).n] 23)).heap.size := by
    rw [hC]
    refine ⟨?_, ?_, ?_, ?_, ?_, ?_, ?_, ?_⟩ <;> go_simp
  have hgr : Gr w (w1.alloc (.cells #[.bool (sumV a b).ok, .int .i64 (sumV a b).n] 23)) := (by repeat (first | exact Gr.refl _ | refine Gr.alloc ?_ _ | refine Gr.drew ?_ | refine Gr.setCell ?_ (by first | (simp; done) | (simp; omega) | omega) _ | refine Gr.trans ?_ (by assumption)))
  have HC := Lib.hid hC
  clear hC hc hf
  go_region_held3 (fun W => W.cell? ⟨w.heap.size, 0, none⟩ = some (.bool a.ok) ∧ W.cell? ⟨w.heap.size, 1, none⟩ = some (.int .i64 a.n) ∧ W.cell? ⟨w.heap.size + 1, 0, none⟩ = some (.bool b.ok) ∧ W.cell? ⟨w.heap.size + 1, 1, none⟩ = some (.int .i64 b.n) ∧ W.cell? ⟨C, 0, none⟩ = some (.bool (sumV a b).ok) ∧ W.cell? ⟨C, 1, none⟩ = some (.int .i64 (sumV a b).n) ∧ w.heap.size + 1 < W.heap.size ∧ C < W.heap.size) (first | exact es | (refine Gr.three ?_ es; focus ((repeat (with_reducible first | exact Gr.refl _ | refine Gr.drew ?_ | refine Gr.alloc ?_ _)); done)) | go_keep)
    (first
      | (go_at_call 27; refine (add_pair_rev a b _ _ _ (Rv.drew (Rv.new ?_ _ [b, a]))).mono ?_; exact (by simp); rintro e w2 ⟨rfl, hg2⟩; have es := Gr.three (Gr.trans (Gr.drew (Gr.alloc (Gr.refl _) _)) hg2) es))
  have hg2' : Gr w w2 := (by repeat (first | exact Gr.refl _ | refine Gr.alloc ?_ _ | refine Gr.drew ?_ | refine Gr.setCell ?_ (by first | (simp; done) | (simp; omega) | omega) _ | refine Gr.trans ?_ (by assumption)))
  cases hs : (sumV a b).ok
  · have hn := sum_no hs
    rw [hs, hn] at es
    go_wp2_with fail
    refine (known_any _).mono ?_; rintro e w3 ⟨rfl, hg3⟩
    go_wp2
    go_ret
    exact ⟨rfl, (by repeat (first | exact Gr.refl _ | refine Gr.alloc ?_ _ | refine Gr.drew ?_ | refine Gr.setCell ?_ (by first | (simp; done) | (simp; omega) | omega) _ | refine Gr.trans ?_ (by assumption)))⟩
  · have SB := sub_any (sumV a b) b
    rw [sum_back hs, hs] at SB
    have HSB := Lib.hid SB
    rw [hs] at es
    clear SB
    go_wp2_with fail
    go_region_held3 (fun W => W.cell? ⟨w.heap.size, 0, none⟩ = some (.bool a.ok) ∧ W.cell? ⟨w.heap.size, 1, none⟩ = some (.int .i64 a.n) ∧ W.cell? ⟨w.heap.size + 1, 0, none⟩ = some (.bool b.ok) ∧ W.cell? ⟨w.heap.size + 1, 1, none⟩ = some (.int .i64 b.n) ∧ W.cell? ⟨C, 0, none⟩ = some (.bool true) ∧ W.cell? ⟨C, 1, none⟩ = some (.int .i64 (sumV a b).n) ∧ w.heap.size + 1 < W.heap.size ∧ C < W.heap.size) (first | exact es |  go_keep)
      (first
        | (go_at_call 30; refine (HSB.out _).mono ?_; rintro e w3 ⟨rfl, hg3⟩; have es := Gr.three (s := ⟨true, (sumV a b).n⟩) hg3 es)
        | (go_at_call 18; refine (known_any _).mono ?_; rintro e w3 ⟨rfl, hg3⟩; have es := Gr.three (s := ⟨true, (sumV a b).n⟩) hg3 es))
    go_wp2
    go_ret
    exact ⟨rfl, (by repeat (first | exact Gr.refl _ | refine Gr.alloc ?_ _ | refine Gr.drew ?_ | refine Gr.setCell ?_ (by first | (simp; done) | (simp; omega) | omega) _ | refine Gr.trans ?_ (by assumption)))⟩
end Go.Proofs.Ytafmbnpcdhpppaa
