/- The laws of chapter 23 that ask one function, walked over the contract of applied. -/
import Derived.Test.YtbdichmkgcngbabGreatFpApplied
namespace Go.Proofs.YtbdichmkgcngbabGreat
set_option linter.unusedVariables false
set_option linter.unusedSimpArgs false
open Go.RowKit

theorem kind_of {nm : ByteArray} {r : Fr} (h : rowF nm = r) (h1 : 1 ≤ r.kind) (h7 : r.kind ≤ 7) : (findF nm).isSome = true → 1 ≤ (rowF nm).kind ∧ (rowF nm).kind ≤ 7 := fun _ => by rw [h]; exact ⟨h1, h7⟩

set_option maxRecDepth 100000 in
set_option maxHeartbeats 3200000 in
theorem law_FpickLowestCurrent (ok : Bool) (n : Int) (A : Option Addr) (c : Nat) (L : List Sq) (w : World) (hcap : L.length ≤ c) (hr : Rl w A L) (hv : Lie w L) :
    Calls Tryz.prog 3 #[.agg #[.bool ok, .int .i64 n], .slice A L.length c] w fun e w' => e = .returned (.bool true) ∧ Gr w w' := by
  have Q := fun w hr hv => applied_any ⟨#[108, 111, 119, 101, 115, 116, 67, 117, 114, 114, 101, 110, 116]⟩ ⟨#[]⟩ ⟨ok, n⟩ A c L w (kind_of (r := R11) (by kernel_rfl) (by decide) (by decide)) hcap hr hv
  go_enter Tryz.func3, Tryz.ntmps3
  go_wp2_with fail
  refine (Q _ ?hr ?hv).mono ?_
  case hr => exact hr.gr (by repeat (first | exact Gr.refl _ | refine Gr.alloc ?_ _ | refine Gr.drew ?_ | refine Gr.setCell ?_ (by first | (simp; done) | (simp; omega) | omega) _ | refine Gr.trans ?_ (by assumption)))
  case hv => exact hv.gr (by repeat (first | exact Gr.refl _ | refine Gr.alloc ?_ _ | refine Gr.drew ?_ | refine Gr.setCell ?_ (by first | (simp; done) | (simp; omega) | omega) _ | refine Gr.trans ?_ (by assumption)))
  rintro e w1 ⟨rfl, hg⟩
  go_wp2
  go_ret
  exact ⟨rfl, (by repeat (first | exact Gr.refl _ | refine Gr.alloc ?_ _ | refine Gr.drew ?_ | refine Gr.setCell ?_ (by first | (simp; done) | (simp; omega) | omega) _ | refine Gr.trans ?_ (by assumption)))⟩

set_option maxRecDepth 100000 in
set_option maxHeartbeats 3200000 in
theorem law_FpickMostDeviant (ok : Bool) (n : Int) (A : Option Addr) (c : Nat) (L : List Sq) (w : World) (hcap : L.length ≤ c) (hr : Rl w A L) (hv : Lie w L) :
    Calls Tryz.prog 4 #[.agg #[.bool ok, .int .i64 n], .slice A L.length c] w fun e w' => e = .returned (.bool true) ∧ Gr w w' := by
  have Q := fun w hr hv => applied_any ⟨#[109, 111, 115, 116, 68, 101, 118, 105, 97, 110, 116]⟩ ⟨#[]⟩ ⟨ok, n⟩ A c L w (kind_of (r := R16) (by kernel_rfl) (by decide) (by decide)) hcap hr hv
  go_enter Tryz.func4, Tryz.ntmps4
  go_wp2_with fail
  refine (Q _ ?hr ?hv).mono ?_
  case hr => exact hr.gr (by repeat (first | exact Gr.refl _ | refine Gr.alloc ?_ _ | refine Gr.drew ?_ | refine Gr.setCell ?_ (by first | (simp; done) | (simp; omega) | omega) _ | refine Gr.trans ?_ (by assumption)))
  case hv => exact hv.gr (by repeat (first | exact Gr.refl _ | refine Gr.alloc ?_ _ | refine Gr.drew ?_ | refine Gr.setCell ?_ (by first | (simp; done) | (simp; omega) | omega) _ | refine Gr.trans ?_ (by assumption)))
  rintro e w1 ⟨rfl, hg⟩
  go_wp2
  go_ret
  exact ⟨rfl, (by repeat (first | exact Gr.refl _ | refine Gr.alloc ?_ _ | refine Gr.drew ?_ | refine Gr.setCell ?_ (by first | (simp; done) | (simp; omega) | omega) _ | refine Gr.trans ?_ (by assumption)))⟩

set_option maxRecDepth 100000 in
set_option maxHeartbeats 3200000 in
theorem law_FpickAverageAbove (ok : Bool) (n : Int) (A : Option Addr) (c : Nat) (L : List Sq) (w : World) (hcap : L.length ≤ c) (hr : Rl w A L) (hv : Lie w L) :
    Calls Tryz.prog 5 #[.agg #[.bool ok, .int .i64 n], .slice A L.length c] w fun e w' => e = .returned (.bool true) ∧ Gr w w' := by
  have Q := fun w hr hv => applied_any ⟨#[97, 118, 101, 114, 97, 103, 101, 65, 98, 111, 118, 101]⟩ ⟨#[]⟩ ⟨ok, n⟩ A c L w (kind_of (r := R0) (by kernel_rfl) (by decide) (by decide)) hcap hr hv
  go_enter Tryz.func5, Tryz.ntmps5
  go_wp2_with fail
  refine (Q _ ?hr ?hv).mono ?_
  case hr => exact hr.gr (by repeat (first | exact Gr.refl _ | refine Gr.alloc ?_ _ | refine Gr.drew ?_ | refine Gr.setCell ?_ (by first | (simp; done) | (simp; omega) | omega) _ | refine Gr.trans ?_ (by assumption)))
  case hv => exact hv.gr (by repeat (first | exact Gr.refl _ | refine Gr.alloc ?_ _ | refine Gr.drew ?_ | refine Gr.setCell ?_ (by first | (simp; done) | (simp; omega) | omega) _ | refine Gr.trans ?_ (by assumption)))
  rintro e w1 ⟨rfl, hg⟩
  go_wp2
  go_ret
  exact ⟨rfl, (by repeat (first | exact Gr.refl _ | refine Gr.alloc ?_ _ | refine Gr.drew ?_ | refine Gr.setCell ?_ (by first | (simp; done) | (simp; omega) | omega) _ | refine Gr.trans ?_ (by assumption)))⟩

set_option maxRecDepth 100000 in
set_option maxHeartbeats 3200000 in
theorem law_FpickAverageBelow (ok : Bool) (n : Int) (A : Option Addr) (c : Nat) (L : List Sq) (w : World) (hcap : L.length ≤ c) (hr : Rl w A L) (hv : Lie w L) :
    Calls Tryz.prog 6 #[.agg #[.bool ok, .int .i64 n], .slice A L.length c] w fun e w' => e = .returned (.bool true) ∧ Gr w w' := by
  have Q := fun w hr hv => applied_any ⟨#[97, 118, 101, 114, 97, 103, 101, 66, 101, 108, 111, 119]⟩ ⟨#[]⟩ ⟨ok, n⟩ A c L w (kind_of (r := R1) (by kernel_rfl) (by decide) (by decide)) hcap hr hv
  go_enter Tryz.func6, Tryz.ntmps6
  go_wp2_with fail
  refine (Q _ ?hr ?hv).mono ?_
  case hr => exact hr.gr (by repeat (first | exact Gr.refl _ | refine Gr.alloc ?_ _ | refine Gr.drew ?_ | refine Gr.setCell ?_ (by first | (simp; done) | (simp; omega) | omega) _ | refine Gr.trans ?_ (by assumption)))
  case hv => exact hv.gr (by repeat (first | exact Gr.refl _ | refine Gr.alloc ?_ _ | refine Gr.drew ?_ | refine Gr.setCell ?_ (by first | (simp; done) | (simp; omega) | omega) _ | refine Gr.trans ?_ (by assumption)))
  rintro e w1 ⟨rfl, hg⟩
  go_wp2
  go_ret
  exact ⟨rfl, (by repeat (first | exact Gr.refl _ | refine Gr.alloc ?_ _ | refine Gr.drew ?_ | refine Gr.setCell ?_ (by first | (simp; done) | (simp; omega) | omega) _ | refine Gr.trans ?_ (by assumption)))⟩

set_option maxRecDepth 100000 in
set_option maxHeartbeats 3200000 in
theorem law_FpickCurrentAbove (ok : Bool) (n : Int) (A : Option Addr) (c : Nat) (L : List Sq) (w : World) (hcap : L.length ≤ c) (hr : Rl w A L) (hv : Lie w L) :
    Calls Tryz.prog 7 #[.agg #[.bool ok, .int .i64 n], .slice A L.length c] w fun e w' => e = .returned (.bool true) ∧ Gr w w' := by
  have Q := fun w hr hv => applied_any ⟨#[99, 117, 114, 114, 101, 110, 116, 65, 98, 111, 118, 101]⟩ ⟨#[]⟩ ⟨ok, n⟩ A c L w (kind_of (r := R2) (by kernel_rfl) (by decide) (by decide)) hcap hr hv
  go_enter Tryz.func7, Tryz.ntmps7
  go_wp2_with fail
  refine (Q _ ?hr ?hv).mono ?_
  case hr => exact hr.gr (by repeat (first | exact Gr.refl _ | refine Gr.alloc ?_ _ | refine Gr.drew ?_ | refine Gr.setCell ?_ (by first | (simp; done) | (simp; omega) | omega) _ | refine Gr.trans ?_ (by assumption)))
  case hv => exact hv.gr (by repeat (first | exact Gr.refl _ | refine Gr.alloc ?_ _ | refine Gr.drew ?_ | refine Gr.setCell ?_ (by first | (simp; done) | (simp; omega) | omega) _ | refine Gr.trans ?_ (by assumption)))
  rintro e w1 ⟨rfl, hg⟩
  go_wp2
  go_ret
  exact ⟨rfl, (by repeat (first | exact Gr.refl _ | refine Gr.alloc ?_ _ | refine Gr.drew ?_ | refine Gr.setCell ?_ (by first | (simp; done) | (simp; omega) | omega) _ | refine Gr.trans ?_ (by assumption)))⟩

set_option maxRecDepth 100000 in
set_option maxHeartbeats 3200000 in
theorem law_FpickCurrentBelow (ok : Bool) (n : Int) (A : Option Addr) (c : Nat) (L : List Sq) (w : World) (hcap : L.length ≤ c) (hr : Rl w A L) (hv : Lie w L) :
    Calls Tryz.prog 8 #[.agg #[.bool ok, .int .i64 n], .slice A L.length c] w fun e w' => e = .returned (.bool true) ∧ Gr w w' := by
  have Q := fun w hr hv => applied_any ⟨#[99, 117, 114, 114, 101, 110, 116, 66, 101, 108, 111, 119]⟩ ⟨#[]⟩ ⟨ok, n⟩ A c L w (kind_of (r := R3) (by kernel_rfl) (by decide) (by decide)) hcap hr hv
  go_enter Tryz.func8, Tryz.ntmps8
  go_wp2_with fail
  refine (Q _ ?hr ?hv).mono ?_
  case hr => exact hr.gr (by repeat (first | exact Gr.refl _ | refine Gr.alloc ?_ _ | refine Gr.drew ?_ | refine Gr.setCell ?_ (by first | (simp; done) | (simp; omega) | omega) _ | refine Gr.trans ?_ (by assumption)))
  case hv => exact hv.gr (by repeat (first | exact Gr.refl _ | refine Gr.alloc ?_ _ | refine Gr.drew ?_ | refine Gr.setCell ?_ (by first | (simp; done) | (simp; omega) | omega) _ | refine Gr.trans ?_ (by assumption)))
  rintro e w1 ⟨rfl, hg⟩
  go_wp2
  go_ret
  exact ⟨rfl, (by repeat (first | exact Gr.refl _ | refine Gr.alloc ?_ _ | refine Gr.drew ?_ | refine Gr.setCell ?_ (by first | (simp; done) | (simp; omega) | omega) _ | refine Gr.trans ?_ (by assumption)))⟩

set_option maxRecDepth 100000 in
set_option maxHeartbeats 3200000 in
theorem law_FpickMaximumAbove (ok : Bool) (n : Int) (A : Option Addr) (c : Nat) (L : List Sq) (w : World) (hcap : L.length ≤ c) (hr : Rl w A L) (hv : Lie w L) :
    Calls Tryz.prog 9 #[.agg #[.bool ok, .int .i64 n], .slice A L.length c] w fun e w' => e = .returned (.bool true) ∧ Gr w w' := by
  have Q := fun w hr hv => applied_any ⟨#[109, 97, 120, 105, 109, 117, 109, 65, 98, 111, 118, 101]⟩ ⟨#[]⟩ ⟨ok, n⟩ A c L w (kind_of (r := R12) (by kernel_rfl) (by decide) (by decide)) hcap hr hv
  go_enter Tryz.func9, Tryz.ntmps9
  go_wp2_with fail
  refine (Q _ ?hr ?hv).mono ?_
  case hr => exact hr.gr (by repeat (first | exact Gr.refl _ | refine Gr.alloc ?_ _ | refine Gr.drew ?_ | refine Gr.setCell ?_ (by first | (simp; done) | (simp; omega) | omega) _ | refine Gr.trans ?_ (by assumption)))
  case hv => exact hv.gr (by repeat (first | exact Gr.refl _ | refine Gr.alloc ?_ _ | refine Gr.drew ?_ | refine Gr.setCell ?_ (by first | (simp; done) | (simp; omega) | omega) _ | refine Gr.trans ?_ (by assumption)))
  rintro e w1 ⟨rfl, hg⟩
  go_wp2
  go_ret
  exact ⟨rfl, (by repeat (first | exact Gr.refl _ | refine Gr.alloc ?_ _ | refine Gr.drew ?_ | refine Gr.setCell ?_ (by first | (simp; done) | (simp; omega) | omega) _ | refine Gr.trans ?_ (by assumption)))⟩

set_option maxRecDepth 100000 in
set_option maxHeartbeats 3200000 in
theorem law_FpickMaximumBelow (ok : Bool) (n : Int) (A : Option Addr) (c : Nat) (L : List Sq) (w : World) (hcap : L.length ≤ c) (hr : Rl w A L) (hv : Lie w L) :
    Calls Tryz.prog 10 #[.agg #[.bool ok, .int .i64 n], .slice A L.length c] w fun e w' => e = .returned (.bool true) ∧ Gr w w' := by
  have Q := fun w hr hv => applied_any ⟨#[109, 97, 120, 105, 109, 117, 109, 66, 101, 108, 111, 119]⟩ ⟨#[]⟩ ⟨ok, n⟩ A c L w (kind_of (r := R13) (by kernel_rfl) (by decide) (by decide)) hcap hr hv
  go_enter Tryz.func10, Tryz.ntmps10
  go_wp2_with fail
  refine (Q _ ?hr ?hv).mono ?_
  case hr => exact hr.gr (by repeat (first | exact Gr.refl _ | refine Gr.alloc ?_ _ | refine Gr.drew ?_ | refine Gr.setCell ?_ (by first | (simp; done) | (simp; omega) | omega) _ | refine Gr.trans ?_ (by assumption)))
  case hv => exact hv.gr (by repeat (first | exact Gr.refl _ | refine Gr.alloc ?_ _ | refine Gr.drew ?_ | refine Gr.setCell ?_ (by first | (simp; done) | (simp; omega) | omega) _ | refine Gr.trans ?_ (by assumption)))
  rintro e w1 ⟨rfl, hg⟩
  go_wp2
  go_ret
  exact ⟨rfl, (by repeat (first | exact Gr.refl _ | refine Gr.alloc ?_ _ | refine Gr.drew ?_ | refine Gr.setCell ?_ (by first | (simp; done) | (simp; omega) | omega) _ | refine Gr.trans ?_ (by assumption)))⟩

set_option maxRecDepth 100000 in
set_option maxHeartbeats 3200000 in
theorem law_FpickMinimumAbove (ok : Bool) (n : Int) (A : Option Addr) (c : Nat) (L : List Sq) (w : World) (hcap : L.length ≤ c) (hr : Rl w A L) (hv : Lie w L) :
    Calls Tryz.prog 11 #[.agg #[.bool ok, .int .i64 n], .slice A L.length c] w fun e w' => e = .returned (.bool true) ∧ Gr w w' := by
  have Q := fun w hr hv => applied_any ⟨#[109, 105, 110, 105, 109, 117, 109, 65, 98, 111, 118, 101]⟩ ⟨#[]⟩ ⟨ok, n⟩ A c L w (kind_of (r := R14) (by kernel_rfl) (by decide) (by decide)) hcap hr hv
  go_enter Tryz.func11, Tryz.ntmps11
  go_wp2_with fail
  refine (Q _ ?hr ?hv).mono ?_
  case hr => exact hr.gr (by repeat (first | exact Gr.refl _ | refine Gr.alloc ?_ _ | refine Gr.drew ?_ | refine Gr.setCell ?_ (by first | (simp; done) | (simp; omega) | omega) _ | refine Gr.trans ?_ (by assumption)))
  case hv => exact hv.gr (by repeat (first | exact Gr.refl _ | refine Gr.alloc ?_ _ | refine Gr.drew ?_ | refine Gr.setCell ?_ (by first | (simp; done) | (simp; omega) | omega) _ | refine Gr.trans ?_ (by assumption)))
  rintro e w1 ⟨rfl, hg⟩
  go_wp2
  go_ret
  exact ⟨rfl, (by repeat (first | exact Gr.refl _ | refine Gr.alloc ?_ _ | refine Gr.drew ?_ | refine Gr.setCell ?_ (by first | (simp; done) | (simp; omega) | omega) _ | refine Gr.trans ?_ (by assumption)))⟩

set_option maxRecDepth 100000 in
set_option maxHeartbeats 3200000 in
theorem law_FpickMinimumBelow (ok : Bool) (n : Int) (A : Option Addr) (c : Nat) (L : List Sq) (w : World) (hcap : L.length ≤ c) (hr : Rl w A L) (hv : Lie w L) :
    Calls Tryz.prog 12 #[.agg #[.bool ok, .int .i64 n], .slice A L.length c] w fun e w' => e = .returned (.bool true) ∧ Gr w w' := by
  have Q := fun w hr hv => applied_any ⟨#[109, 105, 110, 105, 109, 117, 109, 66, 101, 108, 111, 119]⟩ ⟨#[]⟩ ⟨ok, n⟩ A c L w (kind_of (r := R15) (by kernel_rfl) (by decide) (by decide)) hcap hr hv
  go_enter Tryz.func12, Tryz.ntmps12
  go_wp2_with fail
  refine (Q _ ?hr ?hv).mono ?_
  case hr => exact hr.gr (by repeat (first | exact Gr.refl _ | refine Gr.alloc ?_ _ | refine Gr.drew ?_ | refine Gr.setCell ?_ (by first | (simp; done) | (simp; omega) | omega) _ | refine Gr.trans ?_ (by assumption)))
  case hv => exact hv.gr (by repeat (first | exact Gr.refl _ | refine Gr.alloc ?_ _ | refine Gr.drew ?_ | refine Gr.setCell ?_ (by first | (simp; done) | (simp; omega) | omega) _ | refine Gr.trans ?_ (by assumption)))
  rintro e w1 ⟨rfl, hg⟩
  go_wp2
  go_ret
  exact ⟨rfl, (by repeat (first | exact Gr.refl _ | refine Gr.alloc ?_ _ | refine Gr.drew ?_ | refine Gr.setCell ?_ (by first | (simp; done) | (simp; omega) | omega) _ | refine Gr.trans ?_ (by assumption)))⟩
end Go.Proofs.YtbdichmkgcngbabGreat
