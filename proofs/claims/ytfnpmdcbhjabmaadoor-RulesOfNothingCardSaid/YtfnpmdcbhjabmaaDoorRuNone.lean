/- RulesOfNothing of chapter 25. -/
import Derived.Test.YtfnpmdcbhjabmaaDoorRuLaw
namespace Go.Proofs.YtfnpmdcbhjabmaaDoor
set_option linter.unusedVariables false
set_option linter.unusedSimpArgs false
open Go.RowKit

set_option maxRecDepth 100000 in
set_option maxHeartbeats 6400000 in
theorem header_nil (s : ByteArray) (w : World) : Calls Tryd.prog 9 #[.pointer none, .string s] w fun e w' => e = .returned (.tuple #[.agg #[.int .i64 0, .int .i64 0, .slice none 0 0], .bool false]) ∧ Gr w w' := by
  go_enter Tryd.func9, Tryd.ntmps9
  go_wp2
  refine bodyPost_ret (v := .tuple #[.agg #[.int .i64 0, .int .i64 0, .slice none 0 0], .bool false]) (by simp [results, Tryd.results9, go_sem, *]) rfl ?_
  exact ⟨rfl, by repeat (first | exact Gr.refl _ | refine Gr.alloc ?_ _ | refine Gr.setCell ?_ (by first | (simp; done) | (simp; omega)) _)⟩
set_option maxRecDepth 100000 in
set_option maxHeartbeats 6400000 in
theorem schemas_nil (w : World) : Calls Tryd.prog 11 #[.pointer none] w fun e w' => e = .returned (.slice none 0 0) ∧ w = w' := by
  go_enter Tryd.func11, Tryd.ntmps11
  go_wp2
  go_ret
  exact ⟨rfl, rfl⟩
set_option maxRecDepth 100000 in
set_option maxHeartbeats 6400000 in
theorem rules_nil (w : World) : Calls Tryd.prog 12 #[.pointer none] w fun e w' => e = .returned (.slice none 0 0) ∧ w = w' := by
  go_enter Tryd.func12, Tryd.ntmps12
  go_wp2
  go_ret
  exact ⟨rfl, rfl⟩
set_option maxRecDepth 100000 in
set_option maxHeartbeats 6400000 in
theorem headers_nil (w : World) : Calls Tryd.prog 10 #[.agg #[.int .i64 0, .int .i64 0, .slice none 0 0], .agg #[.int .i64 0, .int .i64 0, .slice none 0 0]] w fun e w' => e = .returned (.bool true) ∧ Gr w w' := by
  go_enter Tryd.func10, Tryd.ntmps10
  go_wp2
  go_loopw [5] (fun i wr => i = .int .i64 0 ∧ wr = (w.alloc (.cells #[.int .i64 0, .int .i64 0, .slice none 0 0] 33)).alloc (.cells #[.int .i64 0, .int .i64 0, .slice none 0 0] 33)) (fun _ _ => 0)
  case atStart => exact ⟨rfl, rfl⟩
  case round =>
    obtain ⟨rfl, rfl⟩ := hrel
    go_wp2
    go_ret
    exact ⟨rfl, Gr.alloc (Gr.alloc (Gr.refl w) _) _⟩
set_option maxRecDepth 100000 in
set_option maxHeartbeats 6400000 in
theorem law_RulesOfNothing (s : ByteArray) (w : World) (hm : Ml w) : Calls Tryd.prog 4 #[.string s] w fun e w' => e = .returned (.bool true) ∧ Gr w w' := by
  by_cases hs : (100 : Int) < (s.size : Int)
  · clear hm
    go_enter Tryd.func4, Tryd.ntmps4
    go_wp2
    go_ret
    exact ⟨rfl, Gr.refl _⟩
  · have HM := Lib.hid hm
    have HH := Lib.hid (header_nil s w)
    have HK := Lib.hid known25_any
    clear hm
    go_enter Tryd.func4, Tryd.ntmps4
    go_upto_region 5 with (go_at_call 9; refine HH.out.mono ?_; rintro e w1 ⟨rfl, g1⟩)
    have G1 := Lib.hid g1
    clear g1
    go_wp2_with (first | (go_at_call 10; refine (headers_nil _).mono ?_; rintro e w2 ⟨rfl, g2⟩; have G2 := Lib.hid g2; clear g2) | (go_at_call 11; refine (schemas_nil _).mono ?_; rintro e w3 ⟨rfl, rfl⟩) | (go_at_call 12; refine (rules_nil _).mono ?_; rintro e w4 ⟨rfl, rfl⟩) | (go_at_call 8; refine (HK.out _ (((HM.out.gr G1.out).gr (Gr.alloc (Gr.refl _) _)).gr G2.out)).mono ?_; rintro e w5 ⟨rfl, g5⟩; have G5 := Lib.hid g5; clear g5))
    go_ret
    exact ⟨rfl, ((G1.out.trans (Gr.alloc (Gr.refl _) _)).trans G2.out).trans G5.out⟩
end Go.Proofs.YtfnpmdcbhjabmaaDoor
