/- Contracts of series.Is and of the reference's Is: whether a series may be. -/
import Derived.Test.YtbdichmkgcngbaaGreatMgE
import Derived.Test.YtbdichmkgcngbaaGreatMgB
namespace Go.Proofs.YtbdichmkgcngbaaGreat
set_option linter.unusedVariables false
set_option linter.unusedSimpArgs false
open Go.RowKit

theorem all_take {l : List Vl} {k : Nat} (h : k < l.length) : (l.take (k + 1)).all isB = ((l.take k).all isB && isB l[k]) := by
  rw [List.take_succ_eq_append_getElem h, List.all_append]; simp
theorem all_no {l : List Vl} {k : Nat} (h : k < l.length) (hb : isB l[k] = false) : l.all isB = false := by
  cases hq : l.all isB
  · rfl
  · rw [List.all_eq_true.1 hq _ (List.getElem_mem h)] at hb; cases hb

set_option maxRecDepth 100000 in
theorem isf_any (v : Vl) (w : World) : Calls Tryz.prog 48 #[.agg #[.bool v.ok, .int .i64 v.n]] w fun e w' => e = .returned (.bool (!isB v)) ∧ Gr w w' := by
  go_enter Tryz.func48, Tryz.ntmps48
  go_wp2_with fail
  refine (is_any v.ok v.n _).mono ?_; rintro e w1 ⟨rfl, hg⟩
  show _
  cases h : isB ⟨v.ok, v.n⟩
  all_goals
    go_wp2
    go_ret
    refine ⟨?_, (by repeat (first | exact Gr.refl _ | refine Gr.alloc ?_ _ | refine Gr.drew ?_ | refine Gr.setCell ?_ (by first | (simp; done) | (simp; omega) | omega) _ | refine Gr.trans ?_ (by assumption)))⟩
    show _ = Ending.returned (.bool (!isB ⟨v.ok, v.n⟩))
    rw [h]
    rfl

set_option maxRecDepth 100000 in
set_option maxHeartbeats 1600000 in
theorem idxf_any (A : Option Addr) (c : Nat) (l : List Vl) (w : World) (hl : (l.length : Int) ≤ 131072) (hr : Rv w A l) :
    Calls Tryz.prog 79 #[.slice A l.length c, .func (.func 48) #[] #[]] w fun e w' => (∃ k : Int, e = .returned (.int .i64 k) ∧ (0 ≤ k ↔ l.all isB = false)) ∧ Gr w w' := by
  go_enter Tryz.func79, Tryz.ntmps79
  go_wp2
  go_loopw [5, 8] (fun _ i wr => ∃ k : Nat, k ≤ l.length ∧ i = .int .i64 k ∧ Gr w wr ∧ (l.take k).all isB = true) (fun _ i _ => l.length - (intOf i).toNat)
  case atStart => exact ⟨0, Nat.zero_le _, rfl, Gr.refl _, rfl⟩
  case round =>
    obtain ⟨k, hk, rfl, hgr, ha⟩ := hrel
    by_cases hlt : k < l.length
    · obtain ⟨ad, rfl, hb, hx0, hx1⟩ := (hr.gr hgr).at hlt
      have Ht := all_take hlt
      rw [ha] at Ht
      have Ht := Lib.hid Ht
      have Hn := Lib.hid (all_no hlt)
      have Q := fun w => isf_any l[k] w
      clear ha
      cases hx : isB l[k]
      · simp only [hx, Bool.not_false] at Q
        go_wp2_with fail
        refine (Q _).mono ?_; rintro e w1 ⟨rfl, hg⟩
        go_wp2
        go_ret
        exact ⟨⟨_, rfl, by simp [Hn.out hx]⟩, (by repeat (first | exact Gr.refl _ | refine Gr.alloc ?_ _ | refine Gr.drew ?_ | refine Gr.setCell ?_ (by first | (simp; done) | (simp; omega) | omega) _ | refine Gr.trans ?_ (by assumption)))⟩
      · simp only [hx, Bool.not_true] at Q
        go_wp2_with fail
        refine (Q _).mono ?_; rintro e w1 ⟨rfl, hg⟩
        go_wp2
        go_roundw
        case rel => exact ⟨k + 1, by omega, by go_num, (by repeat (first | exact Gr.refl _ | refine Gr.alloc ?_ _ | refine Gr.drew ?_ | refine Gr.setCell ?_ (by first | (simp; done) | (simp; omega) | omega) _ | refine Gr.trans ?_ (by assumption))), by rw [Ht.out, hx]; rfl⟩
        case measure => simp [intOf]; omega
    · have hkk : k = l.length := by omega
      subst hkk
      rw [List.take_length] at ha
      have Ha := Lib.hid ha; clear ha
      go_wp2
      go_ret
      exact ⟨⟨_, rfl, by rw [Ha.out]; simp⟩, (by repeat (first | exact Gr.refl _ | refine Gr.alloc ?_ _ | refine Gr.drew ?_ | refine Gr.setCell ?_ (by first | (simp; done) | (simp; omega) | omega) _ | refine Gr.trans ?_ (by assumption)))⟩

set_option maxRecDepth 100000 in
theorem conf_any (A : Option Addr) (c : Nat) (l : List Vl) (w : World) (hl : (l.length : Int) ≤ 131072) (hr : Rv w A l) :
    Calls Tryz.prog 47 #[.slice A l.length c, .func (.func 48) #[] #[]] w fun e w' => e = .returned (.bool (!l.all isB)) ∧ Gr w w' := by
  go_enter Tryz.func47, Tryz.ntmps47
  go_wp2_with fail
  refine (idxf_any A c l _ hl hr).mono ?_; rintro e w1 ⟨⟨k, rfl, hk⟩, hg⟩
  have Hk := Lib.hid hk; clear hk
  by_cases h0 : 0 ≤ k
  · go_wp2
    go_ret
    refine ⟨?_, hg⟩
    rw [Hk.out.1 h0]
    simp [h0]
  · go_wp2
    go_ret
    refine ⟨?_, hg⟩
    have : l.all isB = true := by
      cases hq : l.all isB
      · exact absurd (Hk.out.2 hq) (by omega)
      · rfl
    rw [this]
    simp [h0]

set_option maxRecDepth 100000 in
set_option maxHeartbeats 3200000 in
theorem sis_any (s : Sr) (A : Option Addr) (c : Nat) (w : World) (hr : Rv w A s.vals) :
    Calls Tryz.prog 28 #[.agg #[.string s.name, .int .i64 s.start, .int .i64 s.step, .slice A s.vals.length c, .int .i64 s.cons]] w fun e w' => e = .returned (.bool (isS s)) ∧ Gr w w' := by
  by_cases h_name : (s.name.size : Int) ≤ 4096
  case neg =>
    have hS : isS s = false := by
      cases h : isS s
      · rfl
      · exact absurd ((isS_iff s).1 h).name h_name
    rw [hS]
    clear hS
    go_enter Tryz.func28, Tryz.ntmps28
    go_wp2
    go_ret
    exact ⟨rfl, (by repeat (first | exact Gr.refl _ | refine Gr.alloc ?_ _ | refine Gr.drew ?_ | refine Gr.setCell ?_ (by first | (simp; done) | (simp; omega) | omega) _ | refine Gr.trans ?_ (by assumption)))⟩
  by_cases h_s0 : 0 ≤ s.start
  case neg =>
    have hS : isS s = false := by
      cases h : isS s
      · rfl
      · exact absurd ((isS_iff s).1 h).s0 h_s0
    rw [hS]
    clear hS
    go_enter Tryz.func28, Tryz.ntmps28
    go_wp2
    go_ret
    exact ⟨rfl, (by repeat (first | exact Gr.refl _ | refine Gr.alloc ?_ _ | refine Gr.drew ?_ | refine Gr.setCell ?_ (by first | (simp; done) | (simp; omega) | omega) _ | refine Gr.trans ?_ (by assumption)))⟩
  by_cases h_s1 : s.start ≤ 4294967295
  case neg =>
    have hS : isS s = false := by
      cases h : isS s
      · rfl
      · exact absurd ((isS_iff s).1 h).s1 h_s1
    rw [hS]
    clear hS
    go_enter Tryz.func28, Tryz.ntmps28
    go_wp2
    go_ret
    exact ⟨rfl, (by repeat (first | exact Gr.refl _ | refine Gr.alloc ?_ _ | refine Gr.drew ?_ | refine Gr.setCell ?_ (by first | (simp; done) | (simp; omega) | omega) _ | refine Gr.trans ?_ (by assumption)))⟩
  by_cases h_p0 : 1 ≤ s.step
  case neg =>
    have hS : isS s = false := by
      cases h : isS s
      · rfl
      · exact absurd ((isS_iff s).1 h).p0 h_p0
    rw [hS]
    clear hS
    go_enter Tryz.func28, Tryz.ntmps28
    go_wp2
    go_ret
    exact ⟨rfl, (by repeat (first | exact Gr.refl _ | refine Gr.alloc ?_ _ | refine Gr.drew ?_ | refine Gr.setCell ?_ (by first | (simp; done) | (simp; omega) | omega) _ | refine Gr.trans ?_ (by assumption)))⟩
  by_cases h_p1 : s.step ≤ 1099511627776
  case neg =>
    have hS : isS s = false := by
      cases h : isS s
      · rfl
      · exact absurd ((isS_iff s).1 h).p1 h_p1
    rw [hS]
    clear hS
    go_enter Tryz.func28, Tryz.ntmps28
    go_wp2
    go_ret
    exact ⟨rfl, (by repeat (first | exact Gr.refl _ | refine Gr.alloc ?_ _ | refine Gr.drew ?_ | refine Gr.setCell ?_ (by first | (simp; done) | (simp; omega) | omega) _ | refine Gr.trans ?_ (by assumption)))⟩
  by_cases h_len : (s.vals.length : Int) ≤ 131072
  case neg =>
    have hS : isS s = false := by
      cases h : isS s
      · rfl
      · exact absurd ((isS_iff s).1 h).len h_len
    rw [hS]
    clear hS
    go_enter Tryz.func28, Tryz.ntmps28
    go_wp2
    go_ret
    exact ⟨rfl, (by repeat (first | exact Gr.refl _ | refine Gr.alloc ?_ _ | refine Gr.drew ?_ | refine Gr.setCell ?_ (by first | (simp; done) | (simp; omega) | omega) _ | refine Gr.trans ?_ (by assumption)))⟩
  by_cases h_c0 : 0 ≤ s.cons
  case neg =>
    have hS : isS s = false := by
      cases h : isS s
      · rfl
      · exact absurd ((isS_iff s).1 h).c0 h_c0
    rw [hS]
    clear hS
    go_enter Tryz.func28, Tryz.ntmps28
    go_wp2
    go_ret
    exact ⟨rfl, (by repeat (first | exact Gr.refl _ | refine Gr.alloc ?_ _ | refine Gr.drew ?_ | refine Gr.setCell ?_ (by first | (simp; done) | (simp; omega) | omega) _ | refine Gr.trans ?_ (by assumption)))⟩
  by_cases h_c1 : s.cons ≤ 5
  case neg =>
    have hS : isS s = false := by
      cases h : isS s
      · rfl
      · exact absurd ((isS_iff s).1 h).c1 h_c1
    rw [hS]
    clear hS
    go_enter Tryz.func28, Tryz.ntmps28
    go_wp2
    go_ret
    exact ⟨rfl, (by repeat (first | exact Gr.refl _ | refine Gr.alloc ?_ _ | refine Gr.drew ?_ | refine Gr.setCell ?_ (by first | (simp; done) | (simp; omega) | omega) _ | refine Gr.trans ?_ (by assumption)))⟩
  have hS : isS s = s.vals.all isB := by
    cases h : s.vals.all isB
    · cases h2 : isS s
      · rfl
      · rw [((isS_iff s).1 h2).all] at h; cases h
    · exact (isS_iff s).2 ⟨h_name, h_s0, h_s1, h_p0, h_p1, h_len, h_c0, h_c1, h⟩
  rw [hS]
  clear hS
  have Q := fun w hr => conf_any A c s.vals w h_len hr
  go_enter Tryz.func28, Tryz.ntmps28
  cases hall : s.vals.all isB
  all_goals
    simp only [hall, Bool.not_false, Bool.not_true] at Q
    go_wp2_with fail
    refine (Q _ ?hr).mono ?_
    case hr => exact hr.gr (by repeat (first | exact Gr.refl _ | refine Gr.alloc ?_ _ | refine Gr.drew ?_ | refine Gr.setCell ?_ (by first | (simp; done) | (simp; omega) | omega) _ | refine Gr.trans ?_ (by assumption)))
    rintro e w1 ⟨rfl, hg⟩
    go_wp2
    go_ret
    exact ⟨rfl, (by repeat (first | exact Gr.refl _ | refine Gr.alloc ?_ _ | refine Gr.drew ?_ | refine Gr.setCell ?_ (by first | (simp; done) | (simp; omega) | omega) _ | refine Gr.trans ?_ (by assumption)))⟩

set_option maxRecDepth 100000 in
set_option maxHeartbeats 3200000 in
theorem rsis_any (s : Sr) (A : Option Addr) (c : Nat) (w : World) (hr : Rv w A s.vals) :
    Calls Tryz.prog 17 #[.agg #[.string s.name, .int .i64 s.start, .int .i64 s.step, .slice A s.vals.length c, .int .i64 s.cons]] w fun e w' => e = .returned (.bool (isS s)) ∧ Gr w w' := by
  by_cases h_name : (s.name.size : Int) ≤ 4096
  case neg =>
    have hS : isS s = false := by
      cases h : isS s
      · rfl
      · exact absurd ((isS_iff s).1 h).name h_name
    rw [hS]
    clear hS
    go_enter Tryz.func17, Tryz.ntmps17
    go_wp2
    go_ret
    exact ⟨rfl, (by repeat (first | exact Gr.refl _ | refine Gr.alloc ?_ _ | refine Gr.drew ?_ | refine Gr.setCell ?_ (by first | (simp; done) | (simp; omega) | omega) _ | refine Gr.trans ?_ (by assumption)))⟩
  by_cases h_s0 : 0 ≤ s.start
  case neg =>
    have hS : isS s = false := by
      cases h : isS s
      · rfl
      · exact absurd ((isS_iff s).1 h).s0 h_s0
    rw [hS]
    clear hS
    go_enter Tryz.func17, Tryz.ntmps17
    go_wp2
    go_ret
    exact ⟨rfl, (by repeat (first | exact Gr.refl _ | refine Gr.alloc ?_ _ | refine Gr.drew ?_ | refine Gr.setCell ?_ (by first | (simp; done) | (simp; omega) | omega) _ | refine Gr.trans ?_ (by assumption)))⟩
  by_cases h_s1 : s.start ≤ 4294967295
  case neg =>
    have hS : isS s = false := by
      cases h : isS s
      · rfl
      · exact absurd ((isS_iff s).1 h).s1 h_s1
    rw [hS]
    clear hS
    go_enter Tryz.func17, Tryz.ntmps17
    go_wp2
    go_ret
    exact ⟨rfl, (by repeat (first | exact Gr.refl _ | refine Gr.alloc ?_ _ | refine Gr.drew ?_ | refine Gr.setCell ?_ (by first | (simp; done) | (simp; omega) | omega) _ | refine Gr.trans ?_ (by assumption)))⟩
  by_cases h_p0 : 1 ≤ s.step
  case neg =>
    have hS : isS s = false := by
      cases h : isS s
      · rfl
      · exact absurd ((isS_iff s).1 h).p0 h_p0
    rw [hS]
    clear hS
    go_enter Tryz.func17, Tryz.ntmps17
    go_wp2
    go_ret
    exact ⟨rfl, (by repeat (first | exact Gr.refl _ | refine Gr.alloc ?_ _ | refine Gr.drew ?_ | refine Gr.setCell ?_ (by first | (simp; done) | (simp; omega) | omega) _ | refine Gr.trans ?_ (by assumption)))⟩
  by_cases h_p1 : s.step ≤ 1099511627776
  case neg =>
    have hS : isS s = false := by
      cases h : isS s
      · rfl
      · exact absurd ((isS_iff s).1 h).p1 h_p1
    rw [hS]
    clear hS
    go_enter Tryz.func17, Tryz.ntmps17
    go_wp2
    go_ret
    exact ⟨rfl, (by repeat (first | exact Gr.refl _ | refine Gr.alloc ?_ _ | refine Gr.drew ?_ | refine Gr.setCell ?_ (by first | (simp; done) | (simp; omega) | omega) _ | refine Gr.trans ?_ (by assumption)))⟩
  by_cases h_len : (s.vals.length : Int) ≤ 131072
  case neg =>
    have hS : isS s = false := by
      cases h : isS s
      · rfl
      · exact absurd ((isS_iff s).1 h).len h_len
    rw [hS]
    clear hS
    go_enter Tryz.func17, Tryz.ntmps17
    go_wp2
    go_ret
    exact ⟨rfl, (by repeat (first | exact Gr.refl _ | refine Gr.alloc ?_ _ | refine Gr.drew ?_ | refine Gr.setCell ?_ (by first | (simp; done) | (simp; omega) | omega) _ | refine Gr.trans ?_ (by assumption)))⟩
  by_cases h_c0 : 0 ≤ s.cons
  case neg =>
    have hS : isS s = false := by
      cases h : isS s
      · rfl
      · exact absurd ((isS_iff s).1 h).c0 h_c0
    rw [hS]
    clear hS
    go_enter Tryz.func17, Tryz.ntmps17
    go_wp2
    go_ret
    exact ⟨rfl, (by repeat (first | exact Gr.refl _ | refine Gr.alloc ?_ _ | refine Gr.drew ?_ | refine Gr.setCell ?_ (by first | (simp; done) | (simp; omega) | omega) _ | refine Gr.trans ?_ (by assumption)))⟩
  by_cases h_c1 : s.cons ≤ 5
  case neg =>
    have hS : isS s = false := by
      cases h : isS s
      · rfl
      · exact absurd ((isS_iff s).1 h).c1 h_c1
    rw [hS]
    clear hS
    go_enter Tryz.func17, Tryz.ntmps17
    go_wp2
    go_ret
    exact ⟨rfl, (by repeat (first | exact Gr.refl _ | refine Gr.alloc ?_ _ | refine Gr.drew ?_ | refine Gr.setCell ?_ (by first | (simp; done) | (simp; omega) | omega) _ | refine Gr.trans ?_ (by assumption)))⟩
  have hS : isS s = s.vals.all isB := by
    cases h : s.vals.all isB
    · cases h2 : isS s
      · rfl
      · rw [((isS_iff s).1 h2).all] at h; cases h
    · exact (isS_iff s).2 ⟨h_name, h_s0, h_s1, h_p0, h_p1, h_len, h_c0, h_c1, h⟩
  rw [hS]
  clear hS
  generalize hL : s.vals = l at *
  clear hL
  go_enter Tryz.func17, Tryz.ntmps17
  go_wp2
  go_loopw [3] (fun i wr => ∃ k : Nat, k ≤ l.length ∧ i = .int .i64 k ∧ Gr w wr ∧ w.heap.size < wr.heap.size ∧ wr.cell? ⟨w.heap.size, 3, none⟩ = some (.slice A l.length c) ∧ (l.take k).all isB = true) (fun i _ => l.length - (intOf i).toNat)
  case atStart => exact ⟨0, Nat.zero_le _, rfl, (by repeat (first | exact Gr.refl _ | refine Gr.alloc ?_ _ | refine Gr.drew ?_ | refine Gr.setCell ?_ (by first | (simp; done) | (simp; omega) | omega) _ | refine Gr.trans ?_ (by assumption))), by simp, by go_simp, rfl⟩
  case round =>
    obtain ⟨k, hk, rfl, hgr, hz, hc3, ha⟩ := hrel
    by_cases hlt : k < l.length
    · obtain ⟨ad, rfl, hb, hx0, hx1⟩ := (hr.gr hgr).at hlt
      have Ht := all_take hlt
      rw [ha] at Ht
      have Ht := Lib.hid Ht
      have Hn := Lib.hid (all_no hlt)
      have Q := fun w => ris_any l[k].ok l[k].n w
      clear ha
      cases hx : isB l[k]
      · simp only [show isB ⟨l[k].ok, l[k].n⟩ = false from hx] at Q
        go_wp2_with fail
        refine (Q _).mono ?_; rintro e w1 ⟨rfl, hg⟩
        go_wp2
        go_ret
        exact ⟨by simp [Hn.out hx], (by repeat (first | exact Gr.refl _ | refine Gr.alloc ?_ _ | refine Gr.drew ?_ | refine Gr.setCell ?_ (by first | (simp; done) | (simp; omega) | omega) _ | refine Gr.trans ?_ (by assumption)))⟩
      · simp only [show isB ⟨l[k].ok, l[k].n⟩ = true from hx] at Q
        go_wp2_with fail
        refine (Q _).mono ?_; rintro e w1 ⟨rfl, hg⟩
        have hd3 := (hg.cell (p := ⟨w.heap.size, 3, none⟩) hz).trans hc3
        have hz1 := Nat.lt_of_lt_of_le hz hg.size
        clear hc3 hz
        go_wp2
        go_roundw
        case rel => exact ⟨k + 1, by omega, by go_num, (by repeat (first | exact Gr.refl _ | refine Gr.alloc ?_ _ | refine Gr.drew ?_ | refine Gr.setCell ?_ (by first | (simp; done) | (simp; omega) | omega) _ | refine Gr.trans ?_ (by assumption))), hz1, hd3, by rw [Ht.out, hx]; rfl⟩
        case measure => simp [intOf]; omega
    · have hkk : k = l.length := by omega
      subst hkk
      rw [List.take_length] at ha
      have Ha := Lib.hid ha; clear ha
      go_wp2
      go_ret
      exact ⟨by simp [Ha.out], (by repeat (first | exact Gr.refl _ | refine Gr.alloc ?_ _ | refine Gr.drew ?_ | refine Gr.setCell ?_ (by first | (simp; done) | (simp; omega) | omega) _ | refine Gr.trans ?_ (by assumption)))⟩
end Go.Proofs.YtbdichmkgcngbaaGreat
