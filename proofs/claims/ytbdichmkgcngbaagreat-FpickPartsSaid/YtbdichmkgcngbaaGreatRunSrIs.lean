/- Contracts of series.Is and of the reference's Is: whether a series may be. · Contracts of slices.Equal and of Same: whether two series are one. · Facts on the names of chapter 23's functions. No program in sight. · Notions on what a series goes by. · The contracts of fpick's row.of and Of: what a series goes by. -/
import Derived.Test.YtbdichmkgcngbaaGreatRunAgOf
import Derived.Test.YtbdichmkgcngbaaGreatRunFxTwo
import Derived.Lib.Hide
import Derived.BigQuiet
import Derived.Test.YtbdichmkgcngbaaGreatRunFxSqM
import Derived.Test.YtbdichmkgcngbaaGreatRunFxSub
namespace Go.Proofs.YtbdichmkgcngbaaGreat
set_option linter.unusedVariables false
set_option linter.unusedSimpArgs false
open Go.RowKit

theorem all_take {l : List Vl} {k : Nat} (h : k < l.length) : (l.take (k + 1)).all isB = ((l.take k).all isB && isB l[k]) := by
 rw [List.take_succ_eq_append_getElem h, List.all_append]; simp
theorem all_no {l : List Vl} {k : Nat} (h : k < l.length) (hb : isB l[k] = false) : l.all isB = false := by
 cases hq : l.all isB
 ·
  rfl
 ·
  rw [List.all_eq_true.1 hq _ (List.getElem_mem h)] at hb; cases hb

set_option maxRecDepth 100000 in
theorem isf_any (v : Vl) (w : World) : Calls Tryz.prog 48 #[.agg #[.bool v.ok, .int .i64 v.n]] w fun e w' => e = .returned (.bool (!isB v)) ∧ Gr w w' := by
 go_enter Tryz.func48, Tryz.ntmps48
 go_wp2_with fail
 refine (is_any v.ok v.n _).mono ?_; rintro e w1 ⟨rfl, hg⟩
 show _
 cases h : isB ⟨v.ok, v.n⟩
 all_goals
  go_wp2
  go_ret
  refine ⟨?_, (by repeat (first | exact Gr.refl _ | refine Gr.alloc ?_ _ | refine Gr.drew ?_ | refine Gr.setCell ?_ (by first | (simp; done) | (simp; omega) | omega) _ | refine Gr.trans ?_ (by assumption)))⟩
  show _ = Ending.returned (.bool (!isB ⟨v.ok, v.n⟩))
  rw [h]
  rfl

set_option maxRecDepth 100000 in
set_option maxHeartbeats 1600000 in
theorem idxf_any (A : Option Addr) (c : Nat) (l : List Vl) (w : World) (hl : (l.length : Int) ≤ 131072) (hr : Rv w A l) :
  Calls Tryz.prog 79 #[.slice A l.length c, .func (.func 48) #[] #[]] w fun e w' => (∃ k : Int, e = .returned (.int .i64 k) ∧ (0 ≤ k ↔ l.all isB = false)) ∧ Gr w w' := by
 go_enter Tryz.func79, Tryz.ntmps79
 go_wp2
 go_loopw [5, 8] (fun _ i wr => ∃ k : Nat, k ≤ l.length ∧ i = .int .i64 k ∧ Gr w wr ∧ (l.take k).all isB = true) (fun _ i _ => l.length - (intOf i).toNat)
 case atStart => exact ⟨0, Nat.zero_le _, rfl, Gr.refl _, rfl⟩
 case round =>
  obtain ⟨k, hk, rfl, hgr, ha⟩ := hrel
  by_cases hlt : k < l.length
  ·
   obtain ⟨ad, rfl, hb, hx0, hx1⟩ := (hr.gr hgr).at hlt
   have Ht := all_take hlt
   rw [ha] at Ht
   have Ht := Lib.hid Ht
   have Hn := Lib.hid (all_no hlt)
   have Q := fun w => isf_any l[k] w
   clear ha
   cases hx : isB l[k]
   ·
    simp only [hx, Bool.not_false] at Q
    go_wp2_with fail
    refine (Q _).mono ?_; rintro e w1 ⟨rfl, hg⟩
    go_wp2
    go_ret
    exact ⟨⟨_, rfl, by simp [Hn.out hx]⟩, (by repeat (first | exact Gr.refl _ | refine Gr.alloc ?_ _ | refine Gr.drew ?_ | refine Gr.setCell ?_ (by first | (simp; done) | (simp; omega) | omega) _ | refine Gr.trans ?_ (by assumption)))⟩
   ·
    simp only [hx, Bool.not_true] at Q
    go_wp2_with fail
    refine (Q _).mono ?_; rintro e w1 ⟨rfl, hg⟩
    go_wp2
    go_roundw
    case rel => exact ⟨k + 1, by omega, by go_num, (by repeat (first | exact Gr.refl _ | refine Gr.alloc ?_ _ | refine Gr.drew ?_ | refine Gr.setCell ?_ (by first | (simp; done) | (simp; omega) | omega) _ | refine Gr.trans ?_ (by assumption))), by rw [Ht.out, hx]; rfl⟩
    case measure => simp [intOf]; omega
  ·
   have hkk : k = l.length := by omega
   subst hkk
   rw [List.take_length] at ha
   have Ha := Lib.hid ha; clear ha
   go_wp2
   go_ret
   exact ⟨⟨_, rfl, by rw [Ha.out]; simp⟩, (by repeat (first | exact Gr.refl _ | refine Gr.alloc ?_ _ | refine Gr.drew ?_ | refine Gr.setCell ?_ (by first | (simp; done) | (simp; omega) | omega) _ | refine Gr.trans ?_ (by assumption)))⟩

set_option maxRecDepth 100000 in
theorem conf_any (A : Option Addr) (c : Nat) (l : List Vl) (w : World) (hl : (l.length : Int) ≤ 131072) (hr : Rv w A l) :
  Calls Tryz.prog 47 #[.slice A l.length c, .func (.func 48) #[] #[]] w fun e w' => e = .returned (.bool (!l.all isB)) ∧ Gr w w' := by
 go_enter Tryz.func47, Tryz.ntmps47
 go_wp2_with fail
 refine (idxf_any A c l _ hl hr).mono ?_; rintro e w1 ⟨⟨k, rfl, hk⟩, hg⟩
 have Hk := Lib.hid hk; clear hk
 by_cases h0 : 0 ≤ k
 ·
  go_wp2
  go_ret
  refine ⟨?_, hg⟩
  rw [Hk.out.1 h0]
  simp [h0]
 ·
  go_wp2
  go_ret
  refine ⟨?_, hg⟩
  have : l.all isB = true := by
   cases hq : l.all isB
   ·
    exact absurd (Hk.out.2 hq) (by omega)
   ·
    rfl
  rw [this]
  simp [h0]

set_option maxRecDepth 100000 in
set_option maxHeartbeats 3200000 in
theorem sis_any (s : Sr) (A : Option Addr) (c : Nat) (w : World) (hr : Rv w A s.vals) :
  Calls Tryz.prog 28 #[.agg #[.string s.name, .int .i64 s.start, .int .i64 s.step, .slice A s.vals.length c, .int .i64 s.cons]] w fun e w' => e = .returned (.bool (isS s)) ∧ Gr w w' := by
 by_cases h_name : (s.name.size : Int) ≤ 4096
 case neg =>
  have hS : isS s = false := by
   cases h : isS s
   ·
    rfl
   ·
    exact absurd ((isS_iff s).1 h).name h_name
  rw [hS]
  clear hS
  go_enter Tryz.func28, Tryz.ntmps28
  go_wp2
  go_ret
  exact ⟨rfl, (by repeat (first | exact Gr.refl _ | refine Gr.alloc ?_ _ | refine Gr.drew ?_ | refine Gr.setCell ?_ (by first | (simp; done) | (simp; omega) | omega) _ | refine Gr.trans ?_ (by assumption)))⟩
 by_cases h_s0 : 0 ≤ s.start
 case neg =>
  have hS : isS s = false := by
   cases h : isS s
   ·
    rfl
   ·
    exact absurd ((isS_iff s).1 h).s0 h_s0
  rw [hS]
  clear hS
  go_enter Tryz.func28, Tryz.ntmps28
  go_wp2
  go_ret
  exact ⟨rfl, (by repeat (first | exact Gr.refl _ | refine Gr.alloc ?_ _ | refine Gr.drew ?_ | refine Gr.setCell ?_ (by first | (simp; done) | (simp; omega) | omega) _ | refine Gr.trans ?_ (by assumption)))⟩
 by_cases h_s1 : s.start ≤ 4294967295
 case neg =>
  have hS : isS s = false := by
   cases h : isS s
   ·
    rfl
   ·
    exact absurd ((isS_iff s).1 h).s1 h_s1
  rw [hS]
  clear hS
  go_enter Tryz.func28, Tryz.ntmps28
  go_wp2
  go_ret
  exact ⟨rfl, (by repeat (first | exact Gr.refl _ | refine Gr.alloc ?_ _ | refine Gr.drew ?_ | refine Gr.setCell ?_ (by first | (simp; done) | (simp; omega) | omega) _ | refine Gr.trans ?_ (by assumption)))⟩
 by_cases h_p0 : 1 ≤ s.step
 case neg =>
  have hS : isS s = false := by
   cases h : isS s
   ·
    rfl
   ·
    exact absurd ((isS_iff s).1 h).p0 h_p0
  rw [hS]
  clear hS
  go_enter Tryz.func28, Tryz.ntmps28
  go_wp2
  go_ret
  exact ⟨rfl, (by repeat (first | exact Gr.refl _ | refine Gr.alloc ?_ _ | refine Gr.drew ?_ | refine Gr.setCell ?_ (by first | (simp; done) | (simp; omega) | omega) _ | refine Gr.trans ?_ (by assumption)))⟩
 by_cases h_p1 : s.step ≤ 1099511627776
 case neg =>
  have hS : isS s = false := by
   cases h : isS s
   ·
    rfl
   ·
    exact absurd ((isS_iff s).1 h).p1 h_p1
  rw [hS]
  clear hS
  go_enter Tryz.func28, Tryz.ntmps28
  go_wp2
  go_ret
  exact ⟨rfl, (by repeat (first | exact Gr.refl _ | refine Gr.alloc ?_ _ | refine Gr.drew ?_ | refine Gr.setCell ?_ (by first | (simp; done) | (simp; omega) | omega) _ | refine Gr.trans ?_ (by assumption)))⟩
 by_cases h_len : (s.vals.length : Int) ≤ 131072
 case neg =>
  have hS : isS s = false := by
   cases h : isS s
   ·
    rfl
   ·
    exact absurd ((isS_iff s).1 h).len h_len
  rw [hS]
  clear hS
  go_enter Tryz.func28, Tryz.ntmps28
  go_wp2
  go_ret
  exact ⟨rfl, (by repeat (first | exact Gr.refl _ | refine Gr.alloc ?_ _ | refine Gr.drew ?_ | refine Gr.setCell ?_ (by first | (simp; done) | (simp; omega) | omega) _ | refine Gr.trans ?_ (by assumption)))⟩
 by_cases h_c0 : 0 ≤ s.cons
 case neg =>
  have hS : isS s = false := by
   cases h : isS s
   ·
    rfl
   ·
    exact absurd ((isS_iff s).1 h).c0 h_c0
  rw [hS]
  clear hS
  go_enter Tryz.func28, Tryz.ntmps28
  go_wp2
  go_ret
  exact ⟨rfl, (by repeat (first | exact Gr.refl _ | refine Gr.alloc ?_ _ | refine Gr.drew ?_ | refine Gr.setCell ?_ (by first | (simp; done) | (simp; omega) | omega) _ | refine Gr.trans ?_ (by assumption)))⟩
 by_cases h_c1 : s.cons ≤ 5
 case neg =>
  have hS : isS s = false := by
   cases h : isS s
   ·
    rfl
   ·
    exact absurd ((isS_iff s).1 h).c1 h_c1
  rw [hS]
  clear hS
  go_enter Tryz.func28, Tryz.ntmps28
  go_wp2
  go_ret
  exact ⟨rfl, (by repeat (first | exact Gr.refl _ | refine Gr.alloc ?_ _ | refine Gr.drew ?_ | refine Gr.setCell ?_ (by first | (simp; done) | (simp; omega) | omega) _ | refine Gr.trans ?_ (by assumption)))⟩
 have hS : isS s = s.vals.all isB := by
  cases h : s.vals.all isB
  ·
   cases h2 : isS s
   ·
    rfl
   ·
    rw [((isS_iff s).1 h2).all] at h; cases h
  ·
   exact (isS_iff s).2 ⟨h_name, h_s0, h_s1, h_p0, h_p1, h_len, h_c0, h_c1, h⟩
 rw [hS]
 clear hS
 have Q := fun w hr => conf_any A c s.vals w h_len hr
 go_enter Tryz.func28, Tryz.ntmps28
 cases hall : s.vals.all isB
 all_goals
  simp only [hall, Bool.not_false, Bool.not_true] at Q
  go_wp2_with fail
  refine (Q _ ?hr).mono ?_
  case hr => exact hr.gr (by repeat (first | exact Gr.refl _ | refine Gr.alloc ?_ _ | refine Gr.drew ?_ | refine Gr.setCell ?_ (by first | (simp; done) | (simp; omega) | omega) _ | refine Gr.trans ?_ (by assumption)))
  rintro e w1 ⟨rfl, hg⟩
  go_wp2
  go_ret
  exact ⟨rfl, (by repeat (first | exact Gr.refl _ | refine Gr.alloc ?_ _ | refine Gr.drew ?_ | refine Gr.setCell ?_ (by first | (simp; done) | (simp; omega) | omega) _ | refine Gr.trans ?_ (by assumption)))⟩

set_option maxRecDepth 100000 in
set_option maxHeartbeats 3200000 in
theorem rsis_any (s : Sr) (A : Option Addr) (c : Nat) (w : World) (hr : Rv w A s.vals) :
  Calls Tryz.prog 17 #[.agg #[.string s.name, .int .i64 s.start, .int .i64 s.step, .slice A s.vals.length c, .int .i64 s.cons]] w fun e w' => e = .returned (.bool (isS s)) ∧ Gr w w' := by
 by_cases h_name : (s.name.size : Int) ≤ 4096
 case neg =>
  have hS : isS s = false := by
   cases h : isS s
   ·
    rfl
   ·
    exact absurd ((isS_iff s).1 h).name h_name
  rw [hS]
  clear hS
  go_enter Tryz.func17, Tryz.ntmps17
  go_wp2
  go_ret
  exact ⟨rfl, (by repeat (first | exact Gr.refl _ | refine Gr.alloc ?_ _ | refine Gr.drew ?_ | refine Gr.setCell ?_ (by first | (simp; done) | (simp; omega) | omega) _ | refine Gr.trans ?_ (by assumption)))⟩
 by_cases h_s0 : 0 ≤ s.start
 case neg =>
  have hS : isS s = false := by
   cases h : isS s
   ·
    rfl
   ·
    exact absurd ((isS_iff s).1 h).s0 h_s0
  rw [hS]
  clear hS
  go_enter Tryz.func17, Tryz.ntmps17
  go_wp2
  go_ret
  exact ⟨rfl, (by repeat (first | exact Gr.refl _ | refine Gr.alloc ?_ _ | refine Gr.drew ?_ | refine Gr.setCell ?_ (by first | (simp; done) | (simp; omega) | omega) _ | refine Gr.trans ?_ (by assumption)))⟩
 by_cases h_s1 : s.start ≤ 4294967295
 case neg =>
  have hS : isS s = false := by
   cases h : isS s
   ·
    rfl
   ·
    exact absurd ((isS_iff s).1 h).s1 h_s1
  rw [hS]
  clear hS
  go_enter Tryz.func17, Tryz.ntmps17
  go_wp2
  go_ret
  exact ⟨rfl, (by repeat (first | exact Gr.refl _ | refine Gr.alloc ?_ _ | refine Gr.drew ?_ | refine Gr.setCell ?_ (by first | (simp; done) | (simp; omega) | omega) _ | refine Gr.trans ?_ (by assumption)))⟩
 by_cases h_p0 : 1 ≤ s.step
 case neg =>
  have hS : isS s = false := by
   cases h : isS s
   ·
    rfl
   ·
    exact absurd ((isS_iff s).1 h).p0 h_p0
  rw [hS]
  clear hS
  go_enter Tryz.func17, Tryz.ntmps17
  go_wp2
  go_ret
  exact ⟨rfl, (by repeat (first | exact Gr.refl _ | refine Gr.alloc ?_ _ | refine Gr.drew ?_ | refine Gr.setCell ?_ (by first | (simp; done) | (simp; omega) | omega) _ | refine Gr.trans ?_ (by assumption)))⟩
 by_cases h_p1 : s.step ≤ 1099511627776
 case neg =>
  have hS : isS s = false := by
   cases h : isS s
   ·
    rfl
   ·
    exact absurd ((isS_iff s).1 h).p1 h_p1
  rw [hS]
  clear hS
  go_enter Tryz.func17, Tryz.ntmps17
  go_wp2
  go_ret
  exact ⟨rfl, (by repeat (first | exact Gr.refl _ | refine Gr.alloc ?_ _ | refine Gr.drew ?_ | refine Gr.setCell ?_ (by first | (simp; done) | (simp; omega) | omega) _ | refine Gr.trans ?_ (by assumption)))⟩
 by_cases h_len : (s.vals.length : Int) ≤ 131072
 case neg =>
  have hS : isS s = false := by
   cases h : isS s
   ·
    rfl
   ·
    exact absurd ((isS_iff s).1 h).len h_len
  rw [hS]
  clear hS
  go_enter Tryz.func17, Tryz.ntmps17
  go_wp2
  go_ret
  exact ⟨rfl, (by repeat (first | exact Gr.refl _ | refine Gr.alloc ?_ _ | refine Gr.drew ?_ | refine Gr.setCell ?_ (by first | (simp; done) | (simp; omega) | omega) _ | refine Gr.trans ?_ (by assumption)))⟩
 by_cases h_c0 : 0 ≤ s.cons
 case neg =>
  have hS : isS s = false := by
   cases h : isS s
   ·
    rfl
   ·
    exact absurd ((isS_iff s).1 h).c0 h_c0
  rw [hS]
  clear hS
  go_enter Tryz.func17, Tryz.ntmps17
  go_wp2
  go_ret
  exact ⟨rfl, (by repeat (first | exact Gr.refl _ | refine Gr.alloc ?_ _ | refine Gr.drew ?_ | refine Gr.setCell ?_ (by first | (simp; done) | (simp; omega) | omega) _ | refine Gr.trans ?_ (by assumption)))⟩
 by_cases h_c1 : s.cons ≤ 5
 case neg =>
  have hS : isS s = false := by
   cases h : isS s
   ·
    rfl
   ·
    exact absurd ((isS_iff s).1 h).c1 h_c1
  rw [hS]
  clear hS
  go_enter Tryz.func17, Tryz.ntmps17
  go_wp2
  go_ret
  exact ⟨rfl, (by repeat (first | exact Gr.refl _ | refine Gr.alloc ?_ _ | refine Gr.drew ?_ | refine Gr.setCell ?_ (by first | (simp; done) | (simp; omega) | omega) _ | refine Gr.trans ?_ (by assumption)))⟩
 have hS : isS s = s.vals.all isB := by
  cases h : s.vals.all isB
  ·
   cases h2 : isS s
   ·
    rfl
   ·
    rw [((isS_iff s).1 h2).all] at h; cases h
  ·
   exact (isS_iff s).2 ⟨h_name, h_s0, h_s1, h_p0, h_p1, h_len, h_c0, h_c1, h⟩
 rw [hS]
 clear hS
 generalize hL : s.vals = l at *
 clear hL
 go_enter Tryz.func17, Tryz.ntmps17
 go_wp2
 go_loopw [3] (fun i wr => ∃ k : Nat, k ≤ l.length ∧ i = .int .i64 k ∧ Gr w wr ∧ w.heap.size < wr.heap.size ∧ wr.cell? ⟨w.heap.size, 3, none⟩ = some (.slice A l.length c) ∧ (l.take k).all isB = true) (fun i _ => l.length - (intOf i).toNat)
 case atStart => exact ⟨0, Nat.zero_le _, rfl, (by repeat (first | exact Gr.refl _ | refine Gr.alloc ?_ _ | refine Gr.drew ?_ | refine Gr.setCell ?_ (by first | (simp; done) | (simp; omega) | omega) _ | refine Gr.trans ?_ (by assumption))), by simp, by go_simp, rfl⟩
 case round =>
  obtain ⟨k, hk, rfl, hgr, hz, hc3, ha⟩ := hrel
  by_cases hlt : k < l.length
  ·
   obtain ⟨ad, rfl, hb, hx0, hx1⟩ := (hr.gr hgr).at hlt
   have Ht := all_take hlt
   rw [ha] at Ht
   have Ht := Lib.hid Ht
   have Hn := Lib.hid (all_no hlt)
   have Q := fun w => ris_any l[k].ok l[k].n w
   clear ha
   cases hx : isB l[k]
   ·
    simp only [show isB ⟨l[k].ok, l[k].n⟩ = false from hx] at Q
    go_wp2_with fail
    refine (Q _).mono ?_; rintro e w1 ⟨rfl, hg⟩
    go_wp2
    go_ret
    exact ⟨by simp [Hn.out hx], (by repeat (first | exact Gr.refl _ | refine Gr.alloc ?_ _ | refine Gr.drew ?_ | refine Gr.setCell ?_ (by first | (simp; done) | (simp; omega) | omega) _ | refine Gr.trans ?_ (by assumption)))⟩
   ·
    simp only [show isB ⟨l[k].ok, l[k].n⟩ = true from hx] at Q
    go_wp2_with fail
    refine (Q _).mono ?_; rintro e w1 ⟨rfl, hg⟩
    have hd3 := (hg.cell (p := ⟨w.heap.size, 3, none⟩) hz).trans hc3
    have hz1 := Nat.lt_of_lt_of_le hz hg.size
    clear hc3 hz
    go_wp2
    go_roundw
    case rel => exact ⟨k + 1, by omega, by go_num, (by repeat (first | exact Gr.refl _ | refine Gr.alloc ?_ _ | refine Gr.drew ?_ | refine Gr.setCell ?_ (by first | (simp; done) | (simp; omega) | omega) _ | refine Gr.trans ?_ (by assumption))), hz1, hd3, by rw [Ht.out, hx]; rfl⟩
    case measure => simp [intOf]; omega
  ·
   have hkk : k = l.length := by omega
   subst hkk
   rw [List.take_length] at ha
   have Ha := Lib.hid ha; clear ha
   go_wp2
   go_ret
   exact ⟨by simp [Ha.out], (by repeat (first | exact Gr.refl _ | refine Gr.alloc ?_ _ | refine Gr.drew ?_ | refine Gr.setCell ?_ (by first | (simp; done) | (simp; omega) | omega) _ | refine Gr.trans ?_ (by assumption)))⟩
end Go.Proofs.YtbdichmkgcngbaaGreat
namespace Go.Proofs.YtbdichmkgcngbaaGreat
set_option linter.unusedVariables false
set_option linter.unusedSimpArgs false
open Go.RowKit

theorem tl_of {a b : ByteArray} (h : a.toList = b.toList) : a = b := by
 rw [ByteArray.toList_eq, ByteArray.toList_eq] at h
 cases a; cases b; simp at h; rw [h]
theorem tl_ne {a b : ByteArray} (h : a ≠ b) : (a.toList == b.toList) = false := beq_eq_false_iff_ne.2 fun e => h (tl_of e)
theorem vl_ext {a b : Vl} (h0 : a.ok = b.ok) (h1 : a.n = b.n) : a = b := by
 cases a; cases b; simp at h0 h1; subst h0 h1; rfl
theorem take_eq {l m : List Vl} {k : Nat} (hl : k < l.length) (hm : k < m.length) (h : l.take k = m.take k) (e : l[k] = m[k]) : l.take (k + 1) = m.take (k + 1) := by
 rw [List.take_succ_eq_append_getElem hl, List.take_succ_eq_append_getElem hm, h, e]
theorem at_ne {l m : List Vl} {k : Nat} (hl : k < l.length) (hm : k < m.length) (e : l[k] ≠ m[k]) : l ≠ m := by
 intro h; subst h; exact e rfl

/-- a Bool that tells p is handed back. -/
def RetB (p : Prop) (w : World) (e : Ending) (w' : World) : Prop := (∃ b : Bool, e = .returned (.bool b) ∧ (b = true ↔ p)) ∧ Gr w w'
set_option maxRecDepth 100000 in
set_option maxHeartbeats 3200000 in
theorem rsame_any (na nb : ByteArray) (sa sb pa pb ka kb : Int) (l m : List Vl) (A A' : Option Addr) (c c' : Nat) (w : World) (hl : l.length ≤ 1000000) (hm : m.length ≤ 1000000) (hr : Rv w A l) (hr' : Rv w A' m) :
  Calls Tryz.prog 73 #[.agg #[.string na, .int .i64 sa, .int .i64 pa, .slice A l.length c, .int .i64 ka], (.agg #[.string nb, .int .i64 sb, .int .i64 pb, .slice A' m.length c', .int .i64 kb])] w (RetB ((⟨na, sa, pa, l, ka⟩ : Sr) = ⟨nb, sb, pb, m, kb⟩) w) := by
 have hl1 : (l.length : Int) ≤ 1000000 := by omega
 have hm1 : (m.length : Int) ≤ 1000000 := by omega
 by_cases hn : na = nb
 case neg =>
  have hq : (na.toList == nb.toList) = false := tl_ne hn
  have hq' : (na.toList != nb.toList) = true := by simp only [bne, hq, Bool.not_false]
  have hne : Hid ((⟨na, sa, pa, l, ka⟩ : Sr) ≠ ⟨nb, sb, pb, m, kb⟩) := Lib.hid (fun h => hn (congrArg Sr.name h))
  clear hn
  go_enter Tryz.func73, Tryz.ntmps73
  go_wp2
  go_ret
  exact ⟨⟨_, rfl, fun h => (by cases h), fun h => absurd h hne.out⟩, (by repeat (first | exact Gr.refl _ | refine Gr.alloc ?_ _ | refine Gr.drew ?_ | refine Gr.setCell ?_ (by first | (simp; done) | (simp; omega) | omega) _ | refine Gr.trans ?_ (by assumption)))⟩
 subst hn
 by_cases hs : sa = sb
 case neg =>
  have hq : (sa == sb) = false := beq_eq_false_iff_ne.2 hs
  have hq' : (sa != sb) = true := by simp only [bne, hq, Bool.not_false]
  have hne : Hid ((⟨na, sa, pa, l, ka⟩ : Sr) ≠ ⟨na, sb, pb, m, kb⟩) := Lib.hid (fun h => hs (congrArg Sr.start h))
  clear hs
  go_enter Tryz.func73, Tryz.ntmps73
  go_wp2
  go_ret
  exact ⟨⟨_, rfl, fun h => (by cases h), fun h => absurd h hne.out⟩, (by repeat (first | exact Gr.refl _ | refine Gr.alloc ?_ _ | refine Gr.drew ?_ | refine Gr.setCell ?_ (by first | (simp; done) | (simp; omega) | omega) _ | refine Gr.trans ?_ (by assumption)))⟩
 subst hs
 by_cases hp : pa = pb
 case neg =>
  have hq : (pa == pb) = false := beq_eq_false_iff_ne.2 hp
  have hq' : (pa != pb) = true := by simp only [bne, hq, Bool.not_false]
  have hne : Hid ((⟨na, sa, pa, l, ka⟩ : Sr) ≠ ⟨na, sa, pb, m, kb⟩) := Lib.hid (fun h => hp (congrArg Sr.step h))
  clear hp
  go_enter Tryz.func73, Tryz.ntmps73
  go_wp2
  go_ret
  exact ⟨⟨_, rfl, fun h => (by cases h), fun h => absurd h hne.out⟩, (by repeat (first | exact Gr.refl _ | refine Gr.alloc ?_ _ | refine Gr.drew ?_ | refine Gr.setCell ?_ (by first | (simp; done) | (simp; omega) | omega) _ | refine Gr.trans ?_ (by assumption)))⟩
 subst hp
 by_cases hk : ka = kb
 case neg =>
  have hq : (ka == kb) = false := beq_eq_false_iff_ne.2 hk
  have hq' : (ka != kb) = true := by simp only [bne, hq, Bool.not_false]
  have hne : Hid ((⟨na, sa, pa, l, ka⟩ : Sr) ≠ ⟨na, sa, pa, m, kb⟩) := Lib.hid (fun h => hk (congrArg Sr.cons h))
  clear hk
  go_enter Tryz.func73, Tryz.ntmps73
  go_wp2
  go_ret
  exact ⟨⟨_, rfl, fun h => (by cases h), fun h => absurd h hne.out⟩, (by repeat (first | exact Gr.refl _ | refine Gr.alloc ?_ _ | refine Gr.drew ?_ | refine Gr.setCell ?_ (by first | (simp; done) | (simp; omega) | omega) _ | refine Gr.trans ?_ (by assumption)))⟩
 subst hk
 by_cases hlen : l.length = m.length
 case neg =>
  have hq : ((l.length : Int) != (m.length : Int)) = true := by simp; omega
  have hq' : ((l.length : Int) == (m.length : Int)) = false := by simp; omega
  have hq2 : (l.length == m.length) = false := by simp; omega
  have hne : Hid ((⟨na, sa, pa, l, ka⟩ : Sr) ≠ ⟨na, sa, pa, m, ka⟩) := Lib.hid (fun h => hlen (congrArg List.length (congrArg Sr.vals h)))
  clear hlen
  go_enter Tryz.func73, Tryz.ntmps73
  go_wp2
  go_ret
  exact ⟨⟨_, rfl, fun h => (by cases h), fun h => absurd h hne.out⟩, (by repeat (first | exact Gr.refl _ | refine Gr.alloc ?_ _ | refine Gr.drew ?_ | refine Gr.setCell ?_ (by first | (simp; done) | (simp; omega) | omega) _ | refine Gr.trans ?_ (by assumption)))⟩
 rw [← hlen]
 have HL := Lib.hid hlen; clear hlen
 have HL2 : Hid (∀ k, k < l.length → k < m.length) := Lib.hid (fun k h => by rw [← HL.out]; exact h)
 go_enter Tryz.func73, Tryz.ntmps73
 go_wp2
 go_loopw [5] (fun i wr => ∃ k : Nat, k ≤ l.length ∧ i = .int .i64 k ∧ Gr w wr ∧ Hid (l.take k = m.take k) ∧ wr.cell? ⟨w.heap.size, 3, none⟩ = some (.slice A l.length c) ∧ wr.cell? ⟨w.heap.size + 1, 3, none⟩ = some (.slice A' l.length c')) (fun i _ => l.length - (intOf i).toNat)
 case atStart => exact ⟨0, Nat.zero_le _, rfl, (by repeat (first | exact Gr.refl _ | refine Gr.alloc ?_ _ | refine Gr.drew ?_ | refine Gr.setCell ?_ (by first | (simp; done) | (simp; omega) | omega) _ | refine Gr.trans ?_ (by assumption))), Lib.hid rfl, by go_simp, by go_simp⟩
 case round =>
  obtain ⟨k, hk, rfl, hgr, ht, hc3, hd3⟩ := hrel
  by_cases hlt : k < l.length
  ·
   
   obtain ⟨ad, rfl, hb, hx0, hx1⟩ := (hr.gr hgr).at hlt
   have hlt' := HL2.out k hlt
   obtain ⟨ad', rfl, hb', hy0, hy1⟩ := (hr'.gr hgr).at hlt'
   have Ht := Lib.hid (take_eq hlt hlt' ht.out)
   have Hn := Lib.hid (at_ne hlt hlt')
   obtain ⟨x, hxk⟩ : ∃ x, l[k] = x := ⟨_, rfl⟩
   obtain ⟨y, hyk⟩ : ∃ y, m[k] = y := ⟨_, rfl⟩
   rw [hxk] at hx0 hx1 Ht Hn
   rw [hyk] at hy0 hy1 Ht Hn
   have HX := Lib.hid (And.intro hxk hyk); clear hxk hyk
   cases hq0 : (x.ok == y.ok)
   case false =>
    have hne : Hid (x ≠ y) := Lib.hid (fun h => by rw [h] at hq0; simp at hq0)
    cases hq1 : (x.n == y.n)
    all_goals
     go_wp2
     go_quiet (fail)
     go_wp2
     go_ret
     exact ⟨⟨_, rfl, fun h => (by cases h), fun h => absurd h (fun h => (Hn.out hne.out) (congrArg Sr.vals h))⟩, (by repeat (first | exact Gr.refl _ | assumption | refine Gr.drewN ?_ _ | refine Gr.alloc ?_ _ | refine Gr.drew ?_ | refine Gr.setCell ?_ (by first | (simp; done) | (simp; omega) | omega) _ | refine Gr.trans ?_ (by assumption)))⟩
   case true =>
    cases hq1 : (x.n == y.n)
    case false =>
     have hne : Hid (x ≠ y) := Lib.hid (fun h => by rw [h] at hq1; simp at hq1)
     go_wp2
     go_quiet (fail)
     go_wp2
     go_ret
     exact ⟨⟨_, rfl, fun h => (by cases h), fun h => absurd h (fun h => (Hn.out hne.out) (congrArg Sr.vals h))⟩, (by repeat (first | exact Gr.refl _ | assumption | refine Gr.drewN ?_ _ | refine Gr.alloc ?_ _ | refine Gr.drew ?_ | refine Gr.setCell ?_ (by first | (simp; done) | (simp; omega) | omega) _ | refine Gr.trans ?_ (by assumption)))⟩
    case true =>
     have heq : Hid (x = y) := Lib.hid (vl_ext (by simpa using hq0) (by simpa using hq1))
     go_wp2
     go_quiet (fail)
     go_wp2
     go_roundw
     case rel => exact ⟨k + 1, by omega, by go_num, (by repeat (first | exact Gr.refl _ | assumption | refine Gr.drewN ?_ _ | refine Gr.alloc ?_ _ | refine Gr.drew ?_ | refine Gr.setCell ?_ (by first | (simp; done) | (simp; omega) | omega) _ | refine Gr.trans ?_ (by assumption))), Lib.hid (Ht.out heq.out), hc3, hd3⟩
     case measure => simp [intOf]; omega
  ·
   have hkk : k = l.length := by omega
   subst hkk
   have Heq : Hid (l = m) := Lib.hid (by have := ht.out; rw [List.take_length, HL.out, List.take_length] at this; exact this)
   go_wp2
   go_ret
   exact ⟨⟨_, rfl, fun _ => by rw [Heq.out], fun _ => rfl⟩, (by repeat (first | exact Gr.refl _ | refine Gr.alloc ?_ _ | refine Gr.drew ?_ | refine Gr.setCell ?_ (by first | (simp; done) | (simp; omega) | omega) _ | refine Gr.trans ?_ (by assumption)))⟩

end Go.Proofs.YtbdichmkgcngbaaGreat
namespace Go.Proofs.YtbdichmkgcngbaaGreat
set_option linter.unusedVariables false
set_option linter.unusedSimpArgs false
open Go.RowKit

theorem name_cases (nm : ByteArray) : (findF nm = none ∧ ∀ r ∈ rowsL, nm ≠ r.nm) ∨ ∃ r ∈ rowsL, nm = r.nm ∧ findF nm = some r := by
 cases h : findF nm with
 | none =>
  refine .inl ⟨rfl, fun r hr e => ?_⟩
  have := List.find?_eq_none.1 h r hr
  apply this
  unfold isNm
  rw [e]
  exact beq_self_eq_true _
 | some r =>
  have h1 := List.find?_some h
  have h2 := List.mem_of_find?_eq_some h
  refine .inr ⟨r, h2, ?_, rfl⟩
  unfold isNm at h1
  exact (tl_of (by simpa using h1)).symm
/-- what is told of each row alone holds of the row found. -/
theorem row_all {P : Fr → Prop} (h0 : P noFr) (h : ∀ r ∈ rowsL, P r) (nm : ByteArray) : P (rowF nm) := by
 unfold rowF
 rcases name_cases nm with ⟨e, _⟩ | ⟨r, hr, _, e⟩
 ·
  rw [e]; exact h0
 ·
  rw [e]; exact h r hr
theorem rowF_some {nm : ByteArray} (h : (findF nm).isSome = true) : rowF nm ∈ rowsL ∧ nm = (rowF nm).nm := by
 rcases name_cases nm with ⟨e, _⟩ | ⟨r, hr, hn, e⟩
 ·
  rw [e] at h; cases h
 ·
  unfold rowF; rw [e]; exact ⟨hr, hn⟩
theorem nm_is {nm : ByteArray} {r : Fr} {l : List UInt8} {b : Bool} (h : nm = r.nm) (hb : (r.nm.data.toList == l) = b) : (nm.toList == l) = b := by
 rw [h, ByteArray.toList_eq]; exact hb
theorem nm_not {nm : ByteArray} (h : ∀ r ∈ rowsL, nm ≠ r.nm) {r : Fr} (hr : r ∈ rowsL) {l : List UInt8} (hl : r.nm.data.toList = l) : (nm.toList == l) = false := by
 rw [beq_eq_false_iff_ne]
 intro e
 refine h r hr (tl_of ?_)
 rw [e, ByteArray.toList_eq, hl]
theorem aggV_none {k : Int} (h : k < 1 ∨ 5 < k) (l : List Vl) : aggV k l = ⟨false, 0⟩ := by
 unfold aggV ofK
 split
 ·
  rw [if_neg (by omega), if_neg (by omega), if_neg (by omega), if_neg (by omega), if_neg (by omega)]
 ·
  rfl
theorem bif_isB (b : Bool) (x : Vl) (h : isB x = true) : isB (bif b then x else ⟨false, 0⟩) = true := by
 cases b
 ·
  rfl
 ·
  exact h
theorem sqrtV_isB (a : Vl) : isB (sqrtV a) = true := bif_isB _ _ (ofV_isB _)
theorem devV_isB (l : List Vl) : isB (devV l) = true := bif_isB _ _ (sqrtV_isB _)
theorem ofR_isB (b : Int) (l : List Vl) : isB (ofR b l) = true := by
 unfold ofR
 split
 ·
  exact devV_isB l
 ·
  exact aggV_isB _ _
def R0 : Fr := ⟨⟨#[97, 118, 101, 114, 97, 103, 101, 65, 98, 111, 118, 101]⟩, 5, 1, false⟩
def R1 : Fr := ⟨⟨#[97, 118, 101, 114, 97, 103, 101, 66, 101, 108, 111, 119]⟩, 6, 1, false⟩
def R2 : Fr := ⟨⟨#[99, 117, 114, 114, 101, 110, 116, 65, 98, 111, 118, 101]⟩, 5, 3, false⟩
def R3 : Fr := ⟨⟨#[99, 117, 114, 114, 101, 110, 116, 66, 101, 108, 111, 119]⟩, 6, 3, false⟩
def R4 : Fr := ⟨⟨#[101, 120, 99, 108, 117, 100, 101]⟩, 0, 0, false⟩
def R5 : Fr := ⟨⟨#[103, 114, 101, 112]⟩, 0, 0, false⟩
def R6 : Fr := ⟨⟨#[104, 105, 103, 104, 101, 115, 116, 65, 118, 101, 114, 97, 103, 101]⟩, 4, 1, false⟩
def R7 : Fr := ⟨⟨#[104, 105, 103, 104, 101, 115, 116, 67, 117, 114, 114, 101, 110, 116]⟩, 4, 3, false⟩
def R8 : Fr := ⟨⟨#[104, 105, 103, 104, 101, 115, 116, 77, 97, 120]⟩, 4, 4, false⟩
def R9 : Fr := ⟨⟨#[108, 105, 109, 105, 116]⟩, 1, 0, false⟩
def R10 : Fr := ⟨⟨#[108, 111, 119, 101, 115, 116, 65, 118, 101, 114, 97, 103, 101]⟩, 4, 1, true⟩
def R11 : Fr := ⟨⟨#[108, 111, 119, 101, 115, 116, 67, 117, 114, 114, 101, 110, 116]⟩, 4, 3, true⟩
def R12 : Fr := ⟨⟨#[109, 97, 120, 105, 109, 117, 109, 65, 98, 111, 118, 101]⟩, 5, 4, false⟩
def R13 : Fr := ⟨⟨#[109, 97, 120, 105, 109, 117, 109, 66, 101, 108, 111, 119]⟩, 6, 4, false⟩
def R14 : Fr := ⟨⟨#[109, 105, 110, 105, 109, 117, 109, 65, 98, 111, 118, 101]⟩, 5, 5, false⟩
def R15 : Fr := ⟨⟨#[109, 105, 110, 105, 109, 117, 109, 66, 101, 108, 111, 119]⟩, 6, 5, false⟩
def R16 : Fr := ⟨⟨#[109, 111, 115, 116, 68, 101, 118, 105, 97, 110, 116]⟩, 4, 6, false⟩
def R17 : Fr := ⟨⟨#[114, 101, 109, 111, 118, 101, 69, 109, 112, 116, 121, 83, 101, 114, 105, 101, 115]⟩, 7, 0, false⟩
def R18 : Fr := ⟨⟨#[115, 111, 114, 116, 66, 121, 77, 97, 120, 105, 109, 97]⟩, 3, 4, false⟩
def R19 : Fr := ⟨⟨#[115, 111, 114, 116, 66, 121, 77, 105, 110, 105, 109, 97]⟩, 3, 5, true⟩
def R20 : Fr := ⟨⟨#[115, 111, 114, 116, 66, 121, 78, 97, 109, 101]⟩, 2, 0, false⟩
def R21 : Fr := ⟨⟨#[115, 111, 114, 116, 66, 121, 84, 111, 116, 97, 108]⟩, 3, 2, false⟩
theorem rows_eq : rowsL = [R0, R1, R2, R3, R4, R5, R6, R7, R8, R9, R10, R11, R12, R13, R14, R15, R16, R17, R18, R19, R20, R21] := rfl
theorem R0_mem : R0 ∈ rowsL := by rw [rows_eq]; simp
theorem R1_mem : R1 ∈ rowsL := by rw [rows_eq]; simp
theorem R2_mem : R2 ∈ rowsL := by rw [rows_eq]; simp
theorem R3_mem : R3 ∈ rowsL := by rw [rows_eq]; simp
theorem R4_mem : R4 ∈ rowsL := by rw [rows_eq]; simp
theorem R5_mem : R5 ∈ rowsL := by rw [rows_eq]; simp
theorem R6_mem : R6 ∈ rowsL := by rw [rows_eq]; simp
theorem R7_mem : R7 ∈ rowsL := by rw [rows_eq]; simp
theorem R8_mem : R8 ∈ rowsL := by rw [rows_eq]; simp
theorem R9_mem : R9 ∈ rowsL := by rw [rows_eq]; simp
theorem R10_mem : R10 ∈ rowsL := by rw [rows_eq]; simp
theorem R11_mem : R11 ∈ rowsL := by rw [rows_eq]; simp
theorem R12_mem : R12 ∈ rowsL := by rw [rows_eq]; simp
theorem R13_mem : R13 ∈ rowsL := by rw [rows_eq]; simp
theorem R14_mem : R14 ∈ rowsL := by rw [rows_eq]; simp
theorem R15_mem : R15 ∈ rowsL := by rw [rows_eq]; simp
theorem R16_mem : R16 ∈ rowsL := by rw [rows_eq]; simp
theorem R17_mem : R17 ∈ rowsL := by rw [rows_eq]; simp
theorem R18_mem : R18 ∈ rowsL := by rw [rows_eq]; simp
theorem R19_mem : R19 ∈ rowsL := by rw [rows_eq]; simp
theorem R20_mem : R20 ∈ rowsL := by rw [rows_eq]; simp
theorem R21_mem : R21 ∈ rowsL := by rw [rows_eq]; simp
theorem rows_split {P : Fr → Prop} (h0 : P R0) (h1 : P R1) (h2 : P R2) (h3 : P R3) (h4 : P R4) (h5 : P R5) (h6 : P R6) (h7 : P R7) (h8 : P R8) (h9 : P R9) (h10 : P R10) (h11 : P R11) (h12 : P R12) (h13 : P R13) (h14 : P R14) (h15 : P R15) (h16 : P R16) (h17 : P R17) (h18 : P R18) (h19 : P R19) (h20 : P R20) (h21 : P R21) : ∀ r ∈ rowsL, P r := by
 intro r hr
 rw [rows_eq] at hr
 simp only [List.mem_cons, List.not_mem_nil, or_false] at hr
 rcases hr with rfl | rfl | rfl | rfl | rfl | rfl | rfl | rfl | rfl | rfl | rfl | rfl | rfl | rfl | rfl | rfl | rfl | rfl | rfl | rfl | rfl | rfl
 ·
  exact h0
 ·
  exact h1
 ·
  exact h2
 ·
  exact h3
 ·
  exact h4
 ·
  exact h5
 ·
  exact h6
 ·
  exact h7
 ·
  exact h8
 ·
  exact h9
 ·
  exact h10
 ·
  exact h11
 ·
  exact h12
 ·
  exact h13
 ·
  exact h14
 ·
  exact h15
 ·
  exact h16
 ·
  exact h17
 ·
  exact h18
 ·
  exact h19
 ·
  exact h20
 ·
  exact h21
end Go.Proofs.YtbdichmkgcngbaaGreat
namespace Go.Proofs.YtbdichmkgcngbaaGreat
set_option linter.unusedVariables false
set_option linter.unusedSimpArgs false
open Go.RowKit
def aggSr (s : Sr) (A : Option Addr) (c : Nat) : Value := .agg #[.string s.name, .int .i64 s.start, .int .i64 s.step, .slice A s.vals.length c, .int .i64 s.cons]
def RetVl (x : Vl) (w : World) (e : Ending) (w' : World) : Prop := e = .returned (.agg #[.bool x.ok, .int .i64 x.n]) ∧ Gr w w'
end Go.Proofs.YtbdichmkgcngbaaGreat
namespace Go.Proofs.YtbdichmkgcngbaaGreat
open Go.RowKit
set_option linter.unusedVariables false
set_option linter.unusedSimpArgs false

set_option maxRecDepth 100000 in
set_option maxHeartbeats 1600000 in
theorem rowof_any (r : Fr) (s : Sr) (A : Option Addr) (c : Nat) (w : World) (hl : s.vals.length ≤ 1000000) (hr : Rv w A s.vals) :
  Calls Tryz.prog 62 #[aggFr r, aggSr s A c] w (RetVl (ofR r.by_ s.vals) w) := by
 unfold aggFr aggSr
 by_cases h6 : r.by_ = 6
 ·
  have hv : ofR r.by_ s.vals = devV s.vals := by unfold ofR; rw [if_pos h6]
  have hb : (r.by_ == 6) = true := by rw [h6]; rfl
  rw [hv]
  clear hv h6
  go_enter Tryz.func62, Tryz.ntmps62
  go_wp2_with fail
  refine (dev_any A c s.vals _ hl ?hr).mono ?_
  case hr => exact hr.gr (by repeat (first | exact Gr.refl _ | refine Gr.alloc ?_ _ | refine Gr.drew ?_ | refine Gr.setCell ?_ (by first | (simp; done) | (simp; omega) | omega) _ | refine Gr.trans ?_ (by assumption)))
  rintro e w1 ⟨rfl, hg⟩
  obtain ⟨hc, hf⟩ := hg.cells
  have z1 := hg.size
  simp at z1
  have z0 : w.heap.size < w1.heap.size := by omega
  have z2 : w.heap.size + 1 < w1.heap.size := by omega
  have z3 : w.heap.size + 1 + 1 < w1.heap.size := by omega
  have q0 : w1.cell? ⟨w.heap.size + 1 + 1, 0, none⟩ = some (.bool false) := by go_simp
  have q1 : w1.cell? ⟨w.heap.size + 1 + 1, 1, none⟩ = some (.int .i64 0) := by go_simp
  have f0 : w1.frozen? ⟨w.heap.size + 1 + 1, 0, none⟩ = false := by go_simp
  have f1 : w1.frozen? ⟨w.heap.size + 1 + 1, 1, none⟩ = false := by go_simp
  have gw : Gr w w1 := (by repeat (first | exact Gr.refl _ | refine Gr.alloc ?_ _ | refine Gr.drew ?_ | refine Gr.setCell ?_ (by first | (simp; done) | (simp; omega) | omega) _ | refine Gr.trans ?_ (by assumption)))
  clear hc hf hg
  go_wp2
  exact bodyPost_ret (v := .agg #[.bool (devV s.vals).ok, .int .i64 (devV s.vals).n]) (by simp [results, Tryz.results62, go_sem, *]) rfl ⟨rfl, (by repeat (first | exact Gr.refl _ | refine Gr.alloc ?_ _ | refine Gr.drew ?_ | refine Gr.setCell ?_ (by first | (simp; done) | (simp; omega) | omega) _ | refine Gr.trans ?_ (by assumption)))⟩
 ·
  have hv : ofR r.by_ s.vals = aggV r.by_ s.vals := by unfold ofR; rw [if_neg h6]
  have hb : (r.by_ == 6) = false := beq_eq_false_iff_ne.2 h6
  rw [hv]
  clear hv h6
  go_enter Tryz.func62, Tryz.ntmps62
  go_wp2_with fail
  refine (agg_of_any r.by_ A c s.vals _ hl ?hr).mono ?_
  case hr => exact hr.gr (by repeat (first | exact Gr.refl _ | refine Gr.alloc ?_ _ | refine Gr.drew ?_ | refine Gr.setCell ?_ (by first | (simp; done) | (simp; omega) | omega) _ | refine Gr.trans ?_ (by assumption)))
  rintro e w1 ⟨rfl, hg⟩
  obtain ⟨hc, hf⟩ := hg.cells
  have z1 := hg.size
  simp at z1
  have z0 : w.heap.size < w1.heap.size := by omega
  have z2 : w.heap.size + 1 < w1.heap.size := by omega
  have z3 : w.heap.size + 1 + 1 < w1.heap.size := by omega
  have q0 : w1.cell? ⟨w.heap.size + 1 + 1, 0, none⟩ = some (.bool false) := by go_simp
  have q1 : w1.cell? ⟨w.heap.size + 1 + 1, 1, none⟩ = some (.int .i64 0) := by go_simp
  have f0 : w1.frozen? ⟨w.heap.size + 1 + 1, 0, none⟩ = false := by go_simp
  have f1 : w1.frozen? ⟨w.heap.size + 1 + 1, 1, none⟩ = false := by go_simp
  have gw : Gr w w1 := (by repeat (first | exact Gr.refl _ | refine Gr.alloc ?_ _ | refine Gr.drew ?_ | refine Gr.setCell ?_ (by first | (simp; done) | (simp; omega) | omega) _ | refine Gr.trans ?_ (by assumption)))
  clear hc hf hg
  go_wp2
  exact bodyPost_ret (v := .agg #[.bool (aggV r.by_ s.vals).ok, .int .i64 (aggV r.by_ s.vals).n]) (by simp [results, Tryz.results62, go_sem, *]) rfl ⟨rfl, (by repeat (first | exact Gr.refl _ | refine Gr.alloc ?_ _ | refine Gr.drew ?_ | refine Gr.setCell ?_ (by first | (simp; done) | (simp; omega) | omega) _ | refine Gr.trans ?_ (by assumption)))⟩

set_option maxRecDepth 100000 in
set_option maxHeartbeats 1600000 in
theorem fof_any (nm : ByteArray) (s : Sr) (A : Option Addr) (c : Nat) (w : World) (hl : s.vals.length ≤ 1000000) (hr : Rv w A s.vals) :
  Calls Tryz.prog 42 #[.string nm, aggSr s A c] w (RetVl (ofR (rowF nm).by_ s.vals) w) := by
 unfold aggSr
 have Q := fun w => find_any nm w
 have Q2 := fun w hr => rowof_any (rowF nm) s A c w hl hr
 unfold RetFind aggFr at Q
 unfold aggFr aggSr at Q2
 generalize rowF nm = r at Q Q2 ⊢
 generalize (findF nm).isSome = b at Q
 go_enter Tryz.func42, Tryz.ntmps42
 go_wp2_with fail
 refine (Q _).mono ?_
 rintro e w1 ⟨rfl, hg⟩
 obtain ⟨hc, hf⟩ := hg.cells
 have z1 := hg.size
 simp at z1
 have z0 : w.heap.size < w1.heap.size := by omega
 have z2 : w.heap.size + 1 < w1.heap.size := by omega
 have gw : Gr w w1 := (by repeat (first | exact Gr.refl _ | refine Gr.alloc ?_ _ | refine Gr.drew ?_ | refine Gr.setCell ?_ (by first | (simp; done) | (simp; omega) | omega) _ | refine Gr.trans ?_ (by assumption)))
 have r0 : w1.cell? ⟨w.heap.size, 0, none⟩ = some (.string s.name) := by go_simp
 have r1 : w1.cell? ⟨w.heap.size, 1, none⟩ = some (.int .i64 s.start) := by go_simp
 have r2 : w1.cell? ⟨w.heap.size, 2, none⟩ = some (.int .i64 s.step) := by go_simp
 have r3 : w1.cell? ⟨w.heap.size, 3, none⟩ = some (.slice A s.vals.length c) := by go_simp
 have r4 : w1.cell? ⟨w.heap.size, 4, none⟩ = some (.int .i64 s.cons) := by go_simp
 have q0 : w1.cell? ⟨w.heap.size + 1, 0, none⟩ = some (.bool false) := by go_simp
 have q1 : w1.cell? ⟨w.heap.size + 1, 1, none⟩ = some (.int .i64 0) := by go_simp
 have f0 : w1.frozen? ⟨w.heap.size + 1, 0, none⟩ = false := by go_simp
 have f1 : w1.frozen? ⟨w.heap.size + 1, 1, none⟩ = false := by go_simp
 clear hc hf hg Q
 go_wp2_with fail
 refine (Q2 _ ?hr2).mono ?_
 case hr2 => exact (hr.gr gw).gr (by repeat (first | exact Gr.refl _ | refine Gr.alloc ?_ _ | refine Gr.drew ?_ | refine Gr.setCell ?_ (by first | (simp; done) | (simp; omega) | omega) _ | refine Gr.trans ?_ (by assumption)))
 rintro e w2 ⟨rfl, hg⟩
 obtain ⟨hc, hf⟩ := hg.cells
 have z4 := hg.size
 simp at z4
 have z5 : w.heap.size + 1 < w2.heap.size := by omega
 have gw2 : Gr w w2 := (by repeat (first | exact Gr.refl _ | refine Gr.alloc ?_ _ | refine Gr.drew ?_ | refine Gr.setCell ?_ (by first | (simp; done) | (simp; omega) | omega) _ | refine Gr.trans ?_ (by assumption)))
 have z6 : w.heap.size + 1 < w1.heap.size + 1 := by omega
 have p0 : w2.cell? ⟨w.heap.size + 1, 0, none⟩ = some (.bool false) := by go_simp
 have p1 : w2.cell? ⟨w.heap.size + 1, 1, none⟩ = some (.int .i64 0) := by go_simp
 have g0 : w2.frozen? ⟨w.heap.size + 1, 0, none⟩ = false := by go_simp
 have g1 : w2.frozen? ⟨w.heap.size + 1, 1, none⟩ = false := by go_simp
 clear hc hf hg q0 q1 f0 f1 r0 r1 r2 r3 r4
 go_wp2
 exact bodyPost_ret (v := .agg #[.bool (ofR r.by_ s.vals).ok, .int .i64 (ofR r.by_ s.vals).n]) (by simp [results, Tryz.results42, go_sem, *]) rfl ⟨rfl, (by repeat (first | exact Gr.refl _ | refine Gr.alloc ?_ _ | refine Gr.drew ?_ | refine Gr.setCell ?_ (by first | (simp; done) | (simp; omega) | omega) _ | refine Gr.trans ?_ (by assumption)))⟩
end Go.Proofs.YtbdichmkgcngbaaGreat
