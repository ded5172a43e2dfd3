/- The laws of chapter 23 that ask one function, walked over the contract of applied. -/
import Derived.Test.YtbdichmkgcngbaaGreatFpApplied
namespace Go.Proofs.YtbdichmkgcngbaaGreat
set_option linter.unusedVariables false
set_option linter.unusedSimpArgs false
open Go.RowKit

theorem kind_of {nm : ByteArray} {r : Fr} (h : rowF nm = r) (h1 : 1 ≤ r.kind) (h7 : r.kind ≤ 7) : (findF nm).isSome = true → 1 ≤ (rowF nm).kind ∧ (rowF nm).kind ≤ 7 := fun _ => by rw [h]; exact ⟨h1, h7⟩

set_option maxRecDepth 100000 in
set_option maxHeartbeats 3200000 in
theorem law_FpickSortByName (A : Option Addr) (c : Nat) (L : List Sq) (w : World) (hcap : L.length ≤ c) (hr : Rl w A L) (hv : Lie w L) :
    Calls Tryz.prog 5 #[.slice A L.length c] w fun e w' => e = .returned (.bool true) ∧ Gr w w' := by
  have Q := fun w hr hv => applied_any ⟨#[115, 111, 114, 116, 66, 121, 78, 97, 109, 101]⟩ ⟨#[]⟩ ⟨false, 0⟩ A c L w (kind_of (r := R20) (by kernel_rfl) (by decide) (by decide)) hcap hr hv
  go_enter Tryz.func5, Tryz.ntmps5
  go_wp2_with fail
  refine (Q _ ?hr ?hv).mono ?_
  case hr => exact hr.gr (by repeat (first | exact Gr.refl _ | refine Gr.alloc ?_ _ | refine Gr.drew ?_ | refine Gr.setCell ?_ (by first | (simp; done) | (simp; omega) | omega) _ | refine Gr.trans ?_ (by assumption)))
  case hv => exact hv.gr (by repeat (first | exact Gr.refl _ | refine Gr.alloc ?_ _ | refine Gr.drew ?_ | refine Gr.setCell ?_ (by first | (simp; done) | (simp; omega) | omega) _ | refine Gr.trans ?_ (by assumption)))
  rintro e w1 ⟨rfl, hg⟩
  go_wp2
  go_ret
  exact ⟨rfl, (by repeat (first | exact Gr.refl _ | refine Gr.alloc ?_ _ | refine Gr.drew ?_ | refine Gr.setCell ?_ (by first | (simp; done) | (simp; omega) | omega) _ | refine Gr.trans ?_ (by assumption)))⟩

set_option maxRecDepth 100000 in
set_option maxHeartbeats 3200000 in
theorem law_FpickSortByMaxima (A : Option Addr) (c : Nat) (L : List Sq) (w : World) (hcap : L.length ≤ c) (hr : Rl w A L) (hv : Lie w L) :
    Calls Tryz.prog 6 #[.slice A L.length c] w fun e w' => e = .returned (.bool true) ∧ Gr w w' := by
  have Q := fun w hr hv => applied_any ⟨#[115, 111, 114, 116, 66, 121, 77, 97, 120, 105, 109, 97]⟩ ⟨#[]⟩ ⟨false, 0⟩ A c L w (kind_of (r := R18) (by kernel_rfl) (by decide) (by decide)) hcap hr hv
  go_enter Tryz.func6, Tryz.ntmps6
  go_wp2_with fail
  refine (Q _ ?hr ?hv).mono ?_
  case hr => exact hr.gr (by repeat (first | exact Gr.refl _ | refine Gr.alloc ?_ _ | refine Gr.drew ?_ | refine Gr.setCell ?_ (by first | (simp; done) | (simp; omega) | omega) _ | refine Gr.trans ?_ (by assumption)))
  case hv => exact hv.gr (by repeat (first | exact Gr.refl _ | refine Gr.alloc ?_ _ | refine Gr.drew ?_ | refine Gr.setCell ?_ (by first | (simp; done) | (simp; omega) | omega) _ | refine Gr.trans ?_ (by assumption)))
  rintro e w1 ⟨rfl, hg⟩
  go_wp2
  go_ret
  exact ⟨rfl, (by repeat (first | exact Gr.refl _ | refine Gr.alloc ?_ _ | refine Gr.drew ?_ | refine Gr.setCell ?_ (by first | (simp; done) | (simp; omega) | omega) _ | refine Gr.trans ?_ (by assumption)))⟩

set_option maxRecDepth 100000 in
set_option maxHeartbeats 3200000 in
theorem law_FpickSortByMinima (A : Option Addr) (c : Nat) (L : List Sq) (w : World) (hcap : L.length ≤ c) (hr : Rl w A L) (hv : Lie w L) :
    Calls Tryz.prog 7 #[.slice A L.length c] w fun e w' => e = .returned (.bool true) ∧ Gr w w' := by
  have Q := fun w hr hv => applied_any ⟨#[115, 111, 114, 116, 66, 121, 77, 105, 110, 105, 109, 97]⟩ ⟨#[]⟩ ⟨false, 0⟩ A c L w (kind_of (r := R19) (by kernel_rfl) (by decide) (by decide)) hcap hr hv
  go_enter Tryz.func7, Tryz.ntmps7
  go_wp2_with fail
  refine (Q _ ?hr ?hv).mono ?_
  case hr => exact hr.gr (by repeat (first | exact Gr.refl _ | refine Gr.alloc ?_ _ | refine Gr.drew ?_ | refine Gr.setCell ?_ (by first | (simp; done) | (simp; omega) | omega) _ | refine Gr.trans ?_ (by assumption)))
  case hv => exact hv.gr (by repeat (first | exact Gr.refl _ | refine Gr.alloc ?_ _ | refine Gr.drew ?_ | refine Gr.setCell ?_ (by first | (simp; done) | (simp; omega) | omega) _ | refine Gr.trans ?_ (by assumption)))
  rintro e w1 ⟨rfl, hg⟩
  go_wp2
  go_ret
  exact ⟨rfl, (by repeat (first | exact Gr.refl _ | refine Gr.alloc ?_ _ | refine Gr.drew ?_ | refine Gr.setCell ?_ (by first | (simp; done) | (simp; omega) | omega) _ | refine Gr.trans ?_ (by assumption)))⟩

set_option maxRecDepth 100000 in
set_option maxHeartbeats 3200000 in
theorem law_FpickSortByTotal (A : Option Addr) (c : Nat) (L : List Sq) (w : World) (hcap : L.length ≤ c) (hr : Rl w A L) (hv : Lie w L) :
    Calls Tryz.prog 8 #[.slice A L.length c] w fun e w' => e = .returned (.bool true) ∧ Gr w w' := by
  have Q := fun w hr hv => applied_any ⟨#[115, 111, 114, 116, 66, 121, 84, 111, 116, 97, 108]⟩ ⟨#[]⟩ ⟨false, 0⟩ A c L w (kind_of (r := R21) (by kernel_rfl) (by decide) (by decide)) hcap hr hv
  go_enter Tryz.func8, Tryz.ntmps8
  go_wp2_with fail
  refine (Q _ ?hr ?hv).mono ?_
  case hr => exact hr.gr (by repeat (first | exact Gr.refl _ | refine Gr.alloc ?_ _ | refine Gr.drew ?_ | refine Gr.setCell ?_ (by first | (simp; done) | (simp; omega) | omega) _ | refine Gr.trans ?_ (by assumption)))
  case hv => exact hv.gr (by repeat (first | exact Gr.refl _ | refine Gr.alloc ?_ _ | refine Gr.drew ?_ | refine Gr.setCell ?_ (by first | (simp; done) | (simp; omega) | omega) _ | refine Gr.trans ?_ (by assumption)))
  rintro e w1 ⟨rfl, hg⟩
  go_wp2
  go_ret
  exact ⟨rfl, (by repeat (first | exact Gr.refl _ | refine Gr.alloc ?_ _ | refine Gr.drew ?_ | refine Gr.setCell ?_ (by first | (simp; done) | (simp; omega) | omega) _ | refine Gr.trans ?_ (by assumption)))⟩

set_option maxRecDepth 100000 in
set_option maxHeartbeats 3200000 in
theorem law_FpickRemoveEmptySeries (A : Option Addr) (c : Nat) (L : List Sq) (w : World) (hcap : L.length ≤ c) (hr : Rl w A L) (hv : Lie w L) :
    Calls Tryz.prog 9 #[.slice A L.length c] w fun e w' => e = .returned (.bool true) ∧ Gr w w' := by
  have Q := fun w hr hv => applied_any ⟨#[114, 101, 109, 111, 118, 101, 69, 109, 112, 116, 121, 83, 101, 114, 105, 101, 115]⟩ ⟨#[]⟩ ⟨false, 0⟩ A c L w (kind_of (r := R17) (by kernel_rfl) (by decide) (by decide)) hcap hr hv
  go_enter Tryz.func9, Tryz.ntmps9
  go_wp2_with fail
  refine (Q _ ?hr ?hv).mono ?_
  case hr => exact hr.gr (by repeat (first | exact Gr.refl _ | refine Gr.alloc ?_ _ | refine Gr.drew ?_ | refine Gr.setCell ?_ (by first | (simp; done) | (simp; omega) | omega) _ | refine Gr.trans ?_ (by assumption)))
  case hv => exact hv.gr (by repeat (first | exact Gr.refl _ | refine Gr.alloc ?_ _ | refine Gr.drew ?_ | refine Gr.setCell ?_ (by first | (simp; done) | (simp; omega) | omega) _ | refine Gr.trans ?_ (by assumption)))
  rintro e w1 ⟨rfl, hg⟩
  go_wp2
  go_ret
  exact ⟨rfl, (by repeat (first | exact Gr.refl _ | refine Gr.alloc ?_ _ | refine Gr.drew ?_ | refine Gr.setCell ?_ (by first | (simp; done) | (simp; omega) | omega) _ | refine Gr.trans ?_ (by assumption)))⟩

set_option maxRecDepth 100000 in
set_option maxHeartbeats 3200000 in
theorem law_FpickLimit (ok : Bool) (n : Int) (A : Option Addr) (c : Nat) (L : List Sq) (w : World) (hcap : L.length ≤ c) (hr : Rl w A L) (hv : Lie w L) :
    Calls Tryz.prog 10 #[.agg #[.bool ok, .int .i64 n], .slice A L.length c] w fun e w' => e = .returned (.bool true) ∧ Gr w w' := by
  have Q := fun w hr hv => applied_any ⟨#[108, 105, 109, 105, 116]⟩ ⟨#[]⟩ ⟨ok, n⟩ A c L w (kind_of (r := R9) (by kernel_rfl) (by decide) (by decide)) hcap hr hv
  go_enter Tryz.func10, Tryz.ntmps10
  go_wp2_with fail
  refine (Q _ ?hr ?hv).mono ?_
  case hr => exact hr.gr (by repeat (first | exact Gr.refl _ | refine Gr.alloc ?_ _ | refine Gr.drew ?_ | refine Gr.setCell ?_ (by first | (simp; done) | (simp; omega) | omega) _ | refine Gr.trans ?_ (by assumption)))
  case hv => exact hv.gr (by repeat (first | exact Gr.refl _ | refine Gr.alloc ?_ _ | refine Gr.drew ?_ | refine Gr.setCell ?_ (by first | (simp; done) | (simp; omega) | omega) _ | refine Gr.trans ?_ (by assumption)))
  rintro e w1 ⟨rfl, hg⟩
  go_wp2
  go_ret
  exact ⟨rfl, (by repeat (first | exact Gr.refl _ | refine Gr.alloc ?_ _ | refine Gr.drew ?_ | refine Gr.setCell ?_ (by first | (simp; done) | (simp; omega) | omega) _ | refine Gr.trans ?_ (by assumption)))⟩

set_option maxRecDepth 100000 in
set_option maxHeartbeats 3200000 in
theorem law_FpickHighestMax (ok : Bool) (n : Int) (A : Option Addr) (c : Nat) (L : List Sq) (w : World) (hcap : L.length ≤ c) (hr : Rl w A L) (hv : Lie w L) :
    Calls Tryz.prog 11 #[.agg #[.bool ok, .int .i64 n], .slice A L.length c] w fun e w' => e = .returned (.bool true) ∧ Gr w w' := by
  have Q := fun w hr hv => applied_any ⟨#[104, 105, 103, 104, 101, 115, 116, 77, 97, 120]⟩ ⟨#[]⟩ ⟨ok, n⟩ A c L w (kind_of (r := R8) (by kernel_rfl) (by decide) (by decide)) hcap hr hv
  go_enter Tryz.func11, Tryz.ntmps11
  go_wp2_with fail
  refine (Q _ ?hr ?hv).mono ?_
  case hr => exact hr.gr (by repeat (first | exact Gr.refl _ | refine Gr.alloc ?_ _ | refine Gr.drew ?_ | refine Gr.setCell ?_ (by first | (simp; done) | (simp; omega) | omega) _ | refine Gr.trans ?_ (by assumption)))
  case hv => exact hv.gr (by repeat (first | exact Gr.refl _ | refine Gr.alloc ?_ _ | refine Gr.drew ?_ | refine Gr.setCell ?_ (by first | (simp; done) | (simp; omega) | omega) _ | refine Gr.trans ?_ (by assumption)))
  rintro e w1 ⟨rfl, hg⟩
  go_wp2
  go_ret
  exact ⟨rfl, (by repeat (first | exact Gr.refl _ | refine Gr.alloc ?_ _ | refine Gr.drew ?_ | refine Gr.setCell ?_ (by first | (simp; done) | (simp; omega) | omega) _ | refine Gr.trans ?_ (by assumption)))⟩

set_option maxRecDepth 100000 in
set_option maxHeartbeats 3200000 in
theorem law_FpickHighestAverage (ok : Bool) (n : Int) (A : Option Addr) (c : Nat) (L : List Sq) (w : World) (hcap : L.length ≤ c) (hr : Rl w A L) (hv : Lie w L) :
    Calls Tryz.prog 12 #[.agg #[.bool ok, .int .i64 n], .slice A L.length c] w fun e w' => e = .returned (.bool true) ∧ Gr w w' := by
  have Q := fun w hr hv => applied_any ⟨#[104, 105, 103, 104, 101, 115, 116, 65, 118, 101, 114, 97, 103, 101]⟩ ⟨#[]⟩ ⟨ok, n⟩ A c L w (kind_of (r := R6) (by kernel_rfl) (by decide) (by decide)) hcap hr hv
  go_enter Tryz.func12, Tryz.ntmps12
  go_wp2_with fail
  refine (Q _ ?hr ?hv).mono ?_
  case hr => exact hr.gr (by repeat (first | exact Gr.refl _ | refine Gr.alloc ?_ _ | refine Gr.drew ?_ | refine Gr.setCell ?_ (by first | (simp; done) | (simp; omega) | omega) _ | refine Gr.trans ?_ (by assumption)))
  case hv => exact hv.gr (by repeat (first | exact Gr.refl _ | refine Gr.alloc ?_ _ | refine Gr.drew ?_ | refine Gr.setCell ?_ (by first | (simp; done) | (simp; omega) | omega) _ | refine Gr.trans ?_ (by assumption)))
  rintro e w1 ⟨rfl, hg⟩
  go_wp2
  go_ret
  exact ⟨rfl, (by repeat (first | exact Gr.refl _ | refine Gr.alloc ?_ _ | refine Gr.drew ?_ | refine Gr.setCell ?_ (by first | (simp; done) | (simp; omega) | omega) _ | refine Gr.trans ?_ (by assumption)))⟩

set_option maxRecDepth 100000 in
set_option maxHeartbeats 3200000 in
theorem law_FpickHighestCurrent (ok : Bool) (n : Int) (A : Option Addr) (c : Nat) (L : List Sq) (w : World) (hcap : L.length ≤ c) (hr : Rl w A L) (hv : Lie w L) :
    Calls Tryz.prog 13 #[.agg #[.bool ok, .int .i64 n], .slice A L.length c] w fun e w' => e = .returned (.bool true) ∧ Gr w w' := by
  have Q := fun w hr hv => applied_any ⟨#[104, 105, 103, 104, 101, 115, 116, 67, 117, 114, 114, 101, 110, 116]⟩ ⟨#[]⟩ ⟨ok, n⟩ A c L w (kind_of (r := R7) (by kernel_rfl) (by decide) (by decide)) hcap hr hv
  go_enter Tryz.func13, Tryz.ntmps13
  go_wp2_with fail
  refine (Q _ ?hr ?hv).mono ?_
  case hr => exact hr.gr (by repeat (first | exact Gr.refl _ | refine Gr.alloc ?_ _ | refine Gr.drew ?_ | refine Gr.setCell ?_ (by first | (simp; done) | (simp; omega) | omega) _ | refine Gr.trans ?_ (by assumption)))
  case hv => exact hv.gr (by repeat (first | exact Gr.refl _ | refine Gr.alloc ?_ _ | refine Gr.drew ?_ | refine Gr.setCell ?_ (by first | (simp; done) | (simp; omega) | omega) _ | refine Gr.trans ?_ (by assumption)))
  rintro e w1 ⟨rfl, hg⟩
  go_wp2
  go_ret
  exact ⟨rfl, (by repeat (first | exact Gr.refl _ | refine Gr.alloc ?_ _ | refine Gr.drew ?_ | refine Gr.setCell ?_ (by first | (simp; done) | (simp; omega) | omega) _ | refine Gr.trans ?_ (by assumption)))⟩

set_option maxRecDepth 100000 in
set_option maxHeartbeats 3200000 in
theorem law_FpickLowestAverage (ok : Bool) (n : Int) (A : Option Addr) (c : Nat) (L : List Sq) (w : World) (hcap : L.length ≤ c) (hr : Rl w A L) (hv : Lie w L) :
    Calls Tryz.prog 14 #[.agg #[.bool ok, .int .i64 n], .slice A L.length c] w fun e w' => e = .returned (.bool true) ∧ Gr w w' := by
  have Q := fun w hr hv => applied_any ⟨#[108, 111, 119, 101, 115, 116, 65, 118, 101, 114, 97, 103, 101]⟩ ⟨#[]⟩ ⟨ok, n⟩ A c L w (kind_of (r := R10) (by kernel_rfl) (by decide) (by decide)) hcap hr hv
  go_enter Tryz.func14, Tryz.ntmps14
  go_wp2_with fail
  refine (Q _ ?hr ?hv).mono ?_
  case hr => exact hr.gr (by repeat (first | exact Gr.refl _ | refine Gr.alloc ?_ _ | refine Gr.drew ?_ | refine Gr.setCell ?_ (by first | (simp; done) | (simp; omega) | omega) _ | refine Gr.trans ?_ (by assumption)))
  case hv => exact hv.gr (by repeat (first | exact Gr.refl _ | refine Gr.alloc ?_ _ | refine Gr.drew ?_ | refine Gr.setCell ?_ (by first | (simp; done) | (simp; omega) | omega) _ | refine Gr.trans ?_ (by assumption)))
  rintro e w1 ⟨rfl, hg⟩
  go_wp2
  go_ret
  exact ⟨rfl, (by repeat (first | exact Gr.refl _ | refine Gr.alloc ?_ _ | refine Gr.drew ?_ | refine Gr.setCell ?_ (by first | (simp; done) | (simp; omega) | omega) _ | refine Gr.trans ?_ (by assumption)))⟩

end Go.Proofs.YtbdichmkgcngbaaGreat
