/- The contracts of Enough and Put, of both sides (chapter 6). -/
import Derived.Test.YtoojjejdbpkbhaaAgOfR
namespace Go.Proofs.Ytoojjejdbpkbhaa
open Go.RowKit

def heldI (n : Int) : Int := max 0 (min n 16777216)
theorem heldI_lo (n : Int) : 0 ≤ heldI n := by unfold heldI; omega
theorem heldI_hi (n : Int) : heldI n ≤ 16777216 := by unfold heldI; omega
def enX (x k a : Int) : Bool := decide (0 < k) && decide (k ≤ a) && decide (x * a ≤ k * 1000000)
def enB (xff k a : Int) : Bool := enX (heldI xff) (heldI k) (heldI a)
def putV (kind xff : Int) (l : List Vl) : Vl := bif enB xff (kn l).length l.length then aggV kind l else ⟨false, 0⟩
theorem mul_lo {x a : Int} (h : 0 ≤ x) (h' : 0 ≤ a) : 0 ≤ x * a := Int.mul_nonneg h h'
theorem mul_hi {x a : Int} (_h : 0 ≤ x) (h' : 0 ≤ a) (hx : x ≤ 16777216) (ha : a ≤ 16777216) : x * a ≤ 281474976710656 := by
  have h1 : x * a ≤ 16777216 * a := Int.mul_le_mul_of_nonneg_right hx h'
  omega

theorem held_any (n : Int) (w : World) :
    Calls Try.prog 32 #[.int .i64 n] w fun e w' => e = .returned (.int .i64 (heldI n)) ∧ Gr w w' := by
  go_enter Try.func32, Try.ntmps32
  go_wp2
  go_ret
  exact ⟨rfl, Gr.refl _⟩
set_option maxHeartbeats 800000 in
theorem enough_any (xff k a : Int) (w : World) :
    Calls Try.prog 16 #[.int .i64 xff, .int .i64 k, .int .i64 a] w fun e w' => e = .returned (.bool (enB xff k a)) ∧ Gr w w' := by
  obtain ⟨X, hX⟩ : ∃ X, heldI xff = X := ⟨_, rfl⟩
  obtain ⟨Y, hY⟩ : ∃ Y, heldI k = Y := ⟨_, rfl⟩
  obtain ⟨Z, hZ⟩ : ∃ Z, heldI a = Z := ⟨_, rfl⟩
  have X0 := heldI_lo xff
  have X1 := heldI_hi xff
  have Y0 := heldI_lo k
  have Y1 := heldI_hi k
  have Z0 := heldI_lo a
  have Z1 := heldI_hi a
  rw [hX] at X0 X1
  rw [hY] at Y0 Y1
  rw [hZ] at Z0 Z1
  have m0 := mul_lo X0 Z0
  have m1 := mul_hi X0 Z0 X1 Z1
  have hE : enB xff k a = enX X Y Z := by unfold enB; rw [hX, hY, hZ]
  rw [hE]; clear hE
  by_cases h1 : 0 < Y
  · by_cases h2 : Y ≤ Z
    · have hv : enX X Y Z = decide (X * Z ≤ Y * 1000000) := by simp [enX, h1, h2]
      rw [hv]; clear hv
      go_enter Try.func16, Try.ntmps16
      go_wp2_with fail
      refine (held_any xff _).mono ?_; rintro e w1 ⟨rfl, hg1⟩
      rw [hX]
      go_wp2_with fail
      refine (held_any k _).mono ?_; rintro e w2 ⟨rfl, hg2⟩
      rw [hY]
      go_wp2_with fail
      refine (held_any a _).mono ?_; rintro e w3 ⟨rfl, hg3⟩
      rw [hZ]
      have hgw : Gr w w3 := Gr.trans hg1 (Gr.trans hg2 hg3)
      clear hg1 hg2 hg3
      have HX := Lib.hid hX; clear hX
      have HY := Lib.hid hY; clear hY
      have HZ := Lib.hid hZ; clear hZ
      go_wp2
      go_ret
      exact ⟨rfl, hgw⟩
    · have hv : enX X Y Z = false := by simp [enX, h1, h2]
      rw [hv]; clear hv
      go_enter Try.func16, Try.ntmps16
      go_wp2_with fail
      refine (held_any xff _).mono ?_; rintro e w1 ⟨rfl, hg1⟩
      rw [hX]
      go_wp2_with fail
      refine (held_any k _).mono ?_; rintro e w2 ⟨rfl, hg2⟩
      rw [hY]
      go_wp2_with fail
      refine (held_any a _).mono ?_; rintro e w3 ⟨rfl, hg3⟩
      rw [hZ]
      have hgw : Gr w w3 := Gr.trans hg1 (Gr.trans hg2 hg3)
      clear hg1 hg2 hg3
      have HX := Lib.hid hX; clear hX
      have HY := Lib.hid hY; clear hY
      have HZ := Lib.hid hZ; clear hZ
      go_wp2
      go_ret
      exact ⟨rfl, hgw⟩
  · have hv : enX X Y Z = false := by simp [enX, h1]
    rw [hv]; clear hv
    go_enter Try.func16, Try.ntmps16
    go_wp2_with fail
    refine (held_any xff _).mono ?_; rintro e w1 ⟨rfl, hg1⟩
    rw [hX]
    go_wp2_with fail
    refine (held_any k _).mono ?_; rintro e w2 ⟨rfl, hg2⟩
    rw [hY]
    go_wp2_with fail
    refine (held_any a _).mono ?_; rintro e w3 ⟨rfl, hg3⟩
    rw [hZ]
    have hgw : Gr w w3 := Gr.trans hg1 (Gr.trans hg2 hg3)
    clear hg1 hg2 hg3
    have HX := Lib.hid hX; clear hX
    have HY := Lib.hid hY; clear hY
    have HZ := Lib.hid hZ; clear hZ
    go_wp2
    go_ret
    exact ⟨rfl, hgw⟩
set_option maxRecDepth 100000 in
set_option maxHeartbeats 800000 in
theorem put_any (kind xff : Int) (A : Option Addr) (c : Nat) (l : List Vl) (w : World) (hl : l.length ≤ 1000000) (hr : Rv w A l) :
    Calls Try.prog 14 #[.int .i64 kind, .int .i64 xff, .slice A l.length c] w fun e w' => e = .returned (.agg #[.bool (putV kind xff l).ok, .int .i64 (putV kind xff l).n]) ∧ Gr w w' := by
  cases hen : enB xff (kn l).length l.length
  · have hv : putV kind xff l = ⟨false, 0⟩ := by simp [putV, hen]
    rw [hv]; clear hv
    go_enter Try.func14, Try.ntmps14
    go_wp2_with fail
    refine (known_vals_any A c l _ hl (hr.gr (Gr.alloc (Gr.refl _) _))).mono ?_; rintro e w1 ⟨A', c', rfl, hrv, hg⟩
    have hl' := hrv.1
    obtain ⟨hc, hf⟩ := hg.cells
    have z0 : w.heap.size < w1.heap.size := by have := hg.size; simp at this; omega
    have q0 : w1.cell? ⟨w.heap.size, 0, none⟩ = some (.bool false) := by go_simp
    have q1 : w1.cell? ⟨w.heap.size, 1, none⟩ = some (.int .i64 0) := by go_simp
    have f0 : w1.frozen? ⟨w.heap.size, 0, none⟩ = false := by go_simp
    have f1 : w1.frozen? ⟨w.heap.size, 1, none⟩ = false := by go_simp
    have hgw : Gr w w1 := (by repeat (first | exact Gr.refl _ | refine Gr.alloc ?_ _ | refine Gr.drew ?_ | refine Gr.setCell ?_ (by first | (simp; done) | (simp; omega) | omega) _ | refine Gr.trans ?_ (by assumption)))
    clear hc hf hg hl'
    go_wp2_with fail
    refine (enough_any xff (kn l).length l.length _).mono ?_; rintro e w2 ⟨rfl, hg2⟩
    rw [hen]
    have HEN := Lib.hid hen; clear hen
    have hga : Gr w w2 := Gr.trans hgw hg2
    have x0 := (hg2.cell (p := ⟨w.heap.size, 0, none⟩) z0).trans q0
    have x1 := (hg2.cell (p := ⟨w.heap.size, 1, none⟩) z0).trans q1
    have y0 := (hg2.frozen (p := ⟨w.heap.size, 0, none⟩) z0).trans f0
    have y1 := (hg2.frozen (p := ⟨w.heap.size, 1, none⟩) z0).trans f1
    have z1 := Nat.lt_of_lt_of_le z0 hg2.size
    go_wp2
    exact bodyPost_ret (v := .agg #[.bool false, .int .i64 0]) (by simp [results, Try.results14, go_sem, *]) rfl ⟨rfl, (by repeat (first | exact Gr.refl _ | refine Gr.alloc ?_ _ | refine Gr.drew ?_ | refine Gr.setCell ?_ (by first | (simp; done) | (simp; omega) | omega) _ | refine Gr.trans ?_ (by assumption)))⟩
  · have hv : putV kind xff l = aggV kind l := by simp [putV, hen]
    rw [hv]; clear hv
    go_enter Try.func14, Try.ntmps14
    go_wp2_with fail
    refine (known_vals_any A c l _ hl (hr.gr (Gr.alloc (Gr.refl _) _))).mono ?_; rintro e w1 ⟨A', c', rfl, hrv, hg⟩
    have hl' := hrv.1
    obtain ⟨hc, hf⟩ := hg.cells
    have z0 : w.heap.size < w1.heap.size := by have := hg.size; simp at this; omega
    have q0 : w1.cell? ⟨w.heap.size, 0, none⟩ = some (.bool false) := by go_simp
    have q1 : w1.cell? ⟨w.heap.size, 1, none⟩ = some (.int .i64 0) := by go_simp
    have f0 : w1.frozen? ⟨w.heap.size, 0, none⟩ = false := by go_simp
    have f1 : w1.frozen? ⟨w.heap.size, 1, none⟩ = false := by go_simp
    have hgw : Gr w w1 := (by repeat (first | exact Gr.refl _ | refine Gr.alloc ?_ _ | refine Gr.drew ?_ | refine Gr.setCell ?_ (by first | (simp; done) | (simp; omega) | omega) _ | refine Gr.trans ?_ (by assumption)))
    clear hc hf hg hl'
    go_wp2_with fail
    refine (enough_any xff (kn l).length l.length _).mono ?_; rintro e w2 ⟨rfl, hg2⟩
    rw [hen]
    have HEN := Lib.hid hen; clear hen
    have hga : Gr w w2 := Gr.trans hgw hg2
    go_wp2_with fail
    refine (agg_of_any kind A c l _ hl (hr.gr hga)).mono ?_; rintro e w3 ⟨rfl, hg3⟩
    have hgb : Gr w1 w3 := Gr.trans hg2 hg3
    have hgc : Gr w w3 := Gr.trans hga hg3
    have x0 := (hgb.cell (p := ⟨w.heap.size, 0, none⟩) z0).trans q0
    have x1 := (hgb.cell (p := ⟨w.heap.size, 1, none⟩) z0).trans q1
    have y0 := (hgb.frozen (p := ⟨w.heap.size, 0, none⟩) z0).trans f0
    have y1 := (hgb.frozen (p := ⟨w.heap.size, 1, none⟩) z0).trans f1
    have z1 := Nat.lt_of_lt_of_le z0 hgb.size
    go_wp2
    exact bodyPost_ret (v := .agg #[.bool (aggV kind l).ok, .int .i64 (aggV kind l).n]) (by simp [results, Try.results14, go_sem, *]) rfl ⟨rfl, (by repeat (first | exact Gr.refl _ | refine Gr.alloc ?_ _ | refine Gr.drew ?_ | refine Gr.setCell ?_ (by first | (simp; done) | (simp; omega) | omega) _ | refine Gr.trans ?_ (by assumption)))⟩
theorem rheld_any (n : Int) (w : World) :
    Calls Try.prog 33 #[.int .i64 n] w fun e w' => e = .returned (.int .i64 (heldI n)) ∧ Gr w w' := by
  go_enter Try.func33, Try.ntmps33
  go_wp2
  go_ret
  exact ⟨rfl, Gr.refl _⟩
set_option maxHeartbeats 800000 in
theorem renough_any (xff k a : Int) (w : World) :
    Calls Try.prog 17 #[.int .i64 xff, .int .i64 k, .int .i64 a] w fun e w' => e = .returned (.bool (enB xff k a)) ∧ Gr w w' := by
  obtain ⟨X, hX⟩ : ∃ X, heldI xff = X := ⟨_, rfl⟩
  obtain ⟨Y, hY⟩ : ∃ Y, heldI k = Y := ⟨_, rfl⟩
  obtain ⟨Z, hZ⟩ : ∃ Z, heldI a = Z := ⟨_, rfl⟩
  have X0 := heldI_lo xff
  have X1 := heldI_hi xff
  have Y0 := heldI_lo k
  have Y1 := heldI_hi k
  have Z0 := heldI_lo a
  have Z1 := heldI_hi a
  rw [hX] at X0 X1
  rw [hY] at Y0 Y1
  rw [hZ] at Z0 Z1
  have m0 := mul_lo X0 Z0
  have m1 := mul_hi X0 Z0 X1 Z1
  have hE : enB xff k a = enX X Y Z := by unfold enB; rw [hX, hY, hZ]
  rw [hE]; clear hE
  by_cases h1 : 0 < Y
  · by_cases h2 : Y ≤ Z
    · have hv : enX X Y Z = decide (X * Z ≤ Y * 1000000) := by simp [enX, h1, h2]
      rw [hv]; clear hv
      go_enter Try.func17, Try.ntmps17
      go_wp2_with fail
      refine (rheld_any xff _).mono ?_; rintro e w1 ⟨rfl, hg1⟩
      rw [hX]
      go_wp2_with fail
      refine (rheld_any k _).mono ?_; rintro e w2 ⟨rfl, hg2⟩
      rw [hY]
      go_wp2_with fail
      refine (rheld_any a _).mono ?_; rintro e w3 ⟨rfl, hg3⟩
      rw [hZ]
      have hgw : Gr w w3 := Gr.trans hg1 (Gr.trans hg2 hg3)
      clear hg1 hg2 hg3
      have HX := Lib.hid hX; clear hX
      have HY := Lib.hid hY; clear hY
      have HZ := Lib.hid hZ; clear hZ
      go_wp2
      go_ret
      exact ⟨rfl, hgw⟩
    · have hv : enX X Y Z = false := by simp [enX, h1, h2]
      rw [hv]; clear hv
      go_enter Try.func17, Try.ntmps17
      go_wp2_with fail
      refine (rheld_any xff _).mono ?_; rintro e w1 ⟨rfl, hg1⟩
      rw [hX]
      go_wp2_with fail
      refine (rheld_any k _).mono ?_; rintro e w2 ⟨rfl, hg2⟩
      rw [hY]
      go_wp2_with fail
      refine (rheld_any a _).mono ?_; rintro e w3 ⟨rfl, hg3⟩
      rw [hZ]
      have hgw : Gr w w3 := Gr.trans hg1 (Gr.trans hg2 hg3)
      clear hg1 hg2 hg3
      have HX := Lib.hid hX; clear hX
      have HY := Lib.hid hY; clear hY
      have HZ := Lib.hid hZ; clear hZ
      go_wp2
      go_ret
      exact ⟨rfl, hgw⟩
  · have hv : enX X Y Z = false := by simp [enX, h1]
    rw [hv]; clear hv
    go_enter Try.func17, Try.ntmps17
    go_wp2_with fail
    refine (rheld_any xff _).mono ?_; rintro e w1 ⟨rfl, hg1⟩
    rw [hX]
    go_wp2_with fail
    refine (rheld_any k _).mono ?_; rintro e w2 ⟨rfl, hg2⟩
    rw [hY]
    go_wp2_with fail
    refine (rheld_any a _).mono ?_; rintro e w3 ⟨rfl, hg3⟩
    rw [hZ]
    have hgw : Gr w w3 := Gr.trans hg1 (Gr.trans hg2 hg3)
    clear hg1 hg2 hg3
    have HX := Lib.hid hX; clear hX
    have HY := Lib.hid hY; clear hY
    have HZ := Lib.hid hZ; clear hZ
    go_wp2
    go_ret
    exact ⟨rfl, hgw⟩
set_option maxRecDepth 100000 in
set_option maxHeartbeats 800000 in
theorem rput_any (kind xff : Int) (A : Option Addr) (c : Nat) (l : List Vl) (w : World) (hl : l.length ≤ 1000000) (hr : Rv w A l) :
    Calls Try.prog 15 #[.int .i64 kind, .int .i64 xff, .slice A l.length c] w fun e w' => e = .returned (.agg #[.bool (putV kind xff l).ok, .int .i64 (putV kind xff l).n]) ∧ Gr w w' := by
  cases hen : enB xff (kn l).length l.length
  · have hv : putV kind xff l = ⟨false, 0⟩ := by simp [putV, hen]
    rw [hv]; clear hv
    go_enter Try.func15, Try.ntmps15
    go_wp2_with fail
    refine (rknown_vals_any A c l _ hl (hr.gr (Gr.alloc (Gr.refl _) _))).mono ?_; rintro e w1 ⟨A', c', rfl, hrv, hg⟩
    have hl' := hrv.1
    obtain ⟨hc, hf⟩ := hg.cells
    have z0 : w.heap.size < w1.heap.size := by have := hg.size; simp at this; omega
    have q0 : w1.cell? ⟨w.heap.size, 0, none⟩ = some (.bool false) := by go_simp
    have q1 : w1.cell? ⟨w.heap.size, 1, none⟩ = some (.int .i64 0) := by go_simp
    have f0 : w1.frozen? ⟨w.heap.size, 0, none⟩ = false := by go_simp
    have f1 : w1.frozen? ⟨w.heap.size, 1, none⟩ = false := by go_simp
    have hgw : Gr w w1 := (by repeat (first | exact Gr.refl _ | refine Gr.alloc ?_ _ | refine Gr.drew ?_ | refine Gr.setCell ?_ (by first | (simp; done) | (simp; omega) | omega) _ | refine Gr.trans ?_ (by assumption)))
    clear hc hf hg hl'
    go_wp2_with fail
    refine (renough_any xff (kn l).length l.length _).mono ?_; rintro e w2 ⟨rfl, hg2⟩
    rw [hen]
    have HEN := Lib.hid hen; clear hen
    have hga : Gr w w2 := Gr.trans hgw hg2
    have x0 := (hg2.cell (p := ⟨w.heap.size, 0, none⟩) z0).trans q0
    have x1 := (hg2.cell (p := ⟨w.heap.size, 1, none⟩) z0).trans q1
    have y0 := (hg2.frozen (p := ⟨w.heap.size, 0, none⟩) z0).trans f0
    have y1 := (hg2.frozen (p := ⟨w.heap.size, 1, none⟩) z0).trans f1
    have z1 := Nat.lt_of_lt_of_le z0 hg2.size
    go_wp2
    exact bodyPost_ret (v := .agg #[.bool false, .int .i64 0]) (by simp [results, Try.results15, go_sem, *]) rfl ⟨rfl, (by repeat (first | exact Gr.refl _ | refine Gr.alloc ?_ _ | refine Gr.drew ?_ | refine Gr.setCell ?_ (by first | (simp; done) | (simp; omega) | omega) _ | refine Gr.trans ?_ (by assumption)))⟩
  · have hv : putV kind xff l = aggV kind l := by simp [putV, hen]
    rw [hv]; clear hv
    go_enter Try.func15, Try.ntmps15
    go_wp2_with fail
    refine (rknown_vals_any A c l _ hl (hr.gr (Gr.alloc (Gr.refl _) _))).mono ?_; rintro e w1 ⟨A', c', rfl, hrv, hg⟩
    have hl' := hrv.1
    obtain ⟨hc, hf⟩ := hg.cells
    have z0 : w.heap.size < w1.heap.size := by have := hg.size; simp at this; omega
    have q0 : w1.cell? ⟨w.heap.size, 0, none⟩ = some (.bool false) := by go_simp
    have q1 : w1.cell? ⟨w.heap.size, 1, none⟩ = some (.int .i64 0) := by go_simp
    have f0 : w1.frozen? ⟨w.heap.size, 0, none⟩ = false := by go_simp
    have f1 : w1.frozen? ⟨w.heap.size, 1, none⟩ = false := by go_simp
    have hgw : Gr w w1 := (by repeat (first | exact Gr.refl _ | refine Gr.alloc ?_ _ | refine Gr.drew ?_ | refine Gr.setCell ?_ (by first | (simp; done) | (simp; omega) | omega) _ | refine Gr.trans ?_ (by assumption)))
    clear hc hf hg hl'
    go_wp2_with fail
    refine (renough_any xff (kn l).length l.length _).mono ?_; rintro e w2 ⟨rfl, hg2⟩
    rw [hen]
    have HEN := Lib.hid hen; clear hen
    have hga : Gr w w2 := Gr.trans hgw hg2
    go_wp2_with fail
    refine (ragg_of_any kind A c l _ hl (hr.gr hga)).mono ?_; rintro e w3 ⟨rfl, hg3⟩
    have hgb : Gr w1 w3 := Gr.trans hg2 hg3
    have hgc : Gr w w3 := Gr.trans hga hg3
    have x0 := (hgb.cell (p := ⟨w.heap.size, 0, none⟩) z0).trans q0
    have x1 := (hgb.cell (p := ⟨w.heap.size, 1, none⟩) z0).trans q1
    have y0 := (hgb.frozen (p := ⟨w.heap.size, 0, none⟩) z0).trans f0
    have y1 := (hgb.frozen (p := ⟨w.heap.size, 1, none⟩) z0).trans f1
    have z1 := Nat.lt_of_lt_of_le z0 hgb.size
    go_wp2
    exact bodyPost_ret (v := .agg #[.bool (aggV kind l).ok, .int .i64 (aggV kind l).n]) (by simp [results, Try.results15, go_sem, *]) rfl ⟨rfl, (by repeat (first | exact Gr.refl _ | refine Gr.alloc ?_ _ | refine Gr.drew ?_ | refine Gr.setCell ?_ (by first | (simp; done) | (simp; omega) | omega) _ | refine Gr.trans ?_ (by assumption)))⟩
end Go.Proofs.Ytoojjejdbpkbhaa
