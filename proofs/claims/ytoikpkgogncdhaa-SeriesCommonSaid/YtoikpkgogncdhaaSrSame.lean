/- Contracts of slices.Equal and of Same: whether two series are one. -/
import Derived.Test.YtoikpkgogncdhaaSrIs
import Derived.Lib.Hide
import Derived.BigQuiet
namespace Go.Proofs.Ytoikpkgogncdhaa
set_option linter.unusedVariables false
set_option linter.unusedSimpArgs false
open Go.RowKit

theorem tl_of {a b : ByteArray} (h : a.toList = b.toList) : a = b := by
  rw [ByteArray.toList_eq, ByteArray.toList_eq] at h
  cases a; cases b; simp at h; rw [h]
theorem tl_ne {a b : ByteArray} (h : a ≠ b) : (a.toList == b.toList) = false := beq_eq_false_iff_ne.2 fun e => h (tl_of e)
theorem vl_ext {a b : Vl} (h0 : a.ok = b.ok) (h1 : a.n = b.n) : a = b := by
  cases a; cases b; simp at h0 h1; subst h0 h1; rfl
theorem take_eq {l m : List Vl} {k : Nat} (hl : k < l.length) (hm : k < m.length) (h : l.take k = m.take k) (e : l[k] = m[k]) : l.take (k + 1) = m.take (k + 1) := by
  rw [List.take_succ_eq_append_getElem hl, List.take_succ_eq_append_getElem hm, h, e]
theorem at_ne {l m : List Vl} {k : Nat} (hl : k < l.length) (hm : k < m.length) (e : l[k] ≠ m[k]) : l ≠ m := by
  intro h; subst h; exact e rfl

/-- a Bool that tells p is handed back. -/
def RetB (p : Prop) (w : World) (e : Ending) (w' : World) : Prop := (∃ b : Bool, e = .returned (.bool b) ∧ (b = true ↔ p)) ∧ Gr w w'
set_option maxRecDepth 100000 in
set_option maxHeartbeats 3200000 in
theorem equal_any (A A' : Option Addr) (c c' : Nat) (l m : List Vl) (w : World) (hl : l.length ≤ 1000000) (hm : m.length ≤ 1000000) (hr : Rv w A l) (hr' : Rv w A' m) :
    Calls Try.prog 45 #[.slice A l.length c, .slice A' m.length c'] w (RetB (l = m) w) := by
  have hl1 : (l.length : Int) ≤ 1000000 := by omega
  have hm1 : (m.length : Int) ≤ 1000000 := by omega
  by_cases hlen : l.length = m.length
  case neg =>
    have hq : ((l.length : Int) != (m.length : Int)) = true := by simp; omega
    have hq' : ((l.length : Int) == (m.length : Int)) = false := by simp; omega
    have hq2 : (l.length == m.length) = false := by simp; omega
    have hne : Hid (l ≠ m) := Lib.hid (fun h => hlen (by rw [h]))
    clear hlen
    go_enter Try.func45, Try.ntmps45
    go_wp2
    go_ret
    exact ⟨⟨_, rfl, fun h => (by cases h), fun h => absurd h hne.out⟩, (by repeat (first | exact Gr.refl _ | refine Gr.alloc ?_ _ | refine Gr.drew ?_ | refine Gr.setCell ?_ (by first | (simp; done) | (simp; omega) | omega) _ | refine Gr.trans ?_ (by assumption)))⟩
  rw [← hlen]
  have HL := Lib.hid hlen; clear hlen
  have HL2 : Hid (∀ k, k < l.length → k < m.length) := Lib.hid (fun k h => by rw [← HL.out]; exact h)
  go_enter Try.func45, Try.ntmps45
  go_wp2
  go_loopw [5, 13] (fun _ i wr => ∃ k : Nat, k ≤ l.length ∧ i = .int .i64 k ∧ Gr w wr ∧ Hid (l.take k = m.take k)) (fun _ i _ => l.length - (intOf i).toNat)
  case atStart => exact ⟨0, Nat.zero_le _, rfl, Gr.refl _, Lib.hid rfl⟩
  case round =>
    obtain ⟨k, hk, rfl, hgr, ht⟩ := hrel
    by_cases hlt : k < l.length
    · 
      obtain ⟨ad, rfl, hb, hx0, hx1⟩ := (hr.gr hgr).at hlt
      have hlt' := HL2.out k hlt
      obtain ⟨ad', rfl, hb', hy0, hy1⟩ := (hr'.gr hgr).at hlt'
      have Ht := Lib.hid (take_eq hlt hlt' ht.out)
      have Hn := Lib.hid (at_ne hlt hlt')
      obtain ⟨x, hxk⟩ : ∃ x, l[k] = x := ⟨_, rfl⟩
      obtain ⟨y, hyk⟩ : ∃ y, m[k] = y := ⟨_, rfl⟩
      rw [hxk] at hx0 hx1 Ht Hn
      rw [hyk] at hy0 hy1 Ht Hn
      have HX := Lib.hid (And.intro hxk hyk); clear hxk hyk
      cases hq0 : (x.ok == y.ok)
      case false =>
        have hne : Hid (x ≠ y) := Lib.hid (fun h => by rw [h] at hq0; simp at hq0)
        cases hq1 : (x.n == y.n)
        all_goals
          go_wp2
          go_quiet (fail)
          go_wp2
          go_ret
          exact ⟨⟨_, rfl, fun h => (by cases h), fun h => absurd h (Hn.out hne.out)⟩, (by repeat (first | exact Gr.refl _ | assumption | refine Gr.drewN ?_ _ | refine Gr.alloc ?_ _ | refine Gr.drew ?_ | refine Gr.setCell ?_ (by first | (simp; done) | (simp; omega) | omega) _ | refine Gr.trans ?_ (by assumption)))⟩
      case true =>
        cases hq1 : (x.n == y.n)
        case false =>
          have hne : Hid (x ≠ y) := Lib.hid (fun h => by rw [h] at hq1; simp at hq1)
          go_wp2
          go_quiet (fail)
          go_wp2
          go_ret
          exact ⟨⟨_, rfl, fun h => (by cases h), fun h => absurd h (Hn.out hne.out)⟩, (by repeat (first | exact Gr.refl _ | assumption | refine Gr.drewN ?_ _ | refine Gr.alloc ?_ _ | refine Gr.drew ?_ | refine Gr.setCell ?_ (by first | (simp; done) | (simp; omega) | omega) _ | refine Gr.trans ?_ (by assumption)))⟩
        case true =>
          have heq : Hid (x = y) := Lib.hid (vl_ext (by simpa using hq0) (by simpa using hq1))
          go_wp2
          go_quiet (fail)
          go_wp2
          go_roundw
          case rel => exact ⟨k + 1, by omega, by go_num, (by repeat (first | exact Gr.refl _ | assumption | refine Gr.drewN ?_ _ | refine Gr.alloc ?_ _ | refine Gr.drew ?_ | refine Gr.setCell ?_ (by first | (simp; done) | (simp; omega) | omega) _ | refine Gr.trans ?_ (by assumption))), Lib.hid (Ht.out heq.out)⟩
          case measure => simp [intOf]; omega
    · have hkk : k = l.length := by omega
      subst hkk
      have Heq : Hid (l = m) := Lib.hid (by have := ht.out; rw [List.take_length, HL.out, List.take_length] at this; exact this)
      go_wp2
      go_ret
      exact ⟨⟨_, rfl, fun _ => Heq.out, fun _ => rfl⟩, (by repeat (first | exact Gr.refl _ | refine Gr.alloc ?_ _ | refine Gr.drew ?_ | refine Gr.setCell ?_ (by first | (simp; done) | (simp; omega) | omega) _ | refine Gr.trans ?_ (by assumption)))⟩

set_option maxRecDepth 100000 in
set_option maxHeartbeats 3200000 in
theorem same_any (na nb : ByteArray) (sa sb pa pb ka kb : Int) (l m : List Vl) (A A' : Option Addr) (c c' : Nat) (w : World) (hl : l.length ≤ 1000000) (hm : m.length ≤ 1000000) (hr : Rv w A l) (hr' : Rv w A' m) :
    Calls Try.prog 25 #[.agg #[.string na, .int .i64 sa, .int .i64 pa, .slice A l.length c, .int .i64 ka], (.agg #[.string nb, .int .i64 sb, .int .i64 pb, .slice A' m.length c', .int .i64 kb])] w (RetB ((⟨na, sa, pa, l, ka⟩ : Sr) = ⟨nb, sb, pb, m, kb⟩) w) := by
  have hl1 : (l.length : Int) ≤ 1000000 := by omega
  have hm1 : (m.length : Int) ≤ 1000000 := by omega
  by_cases hn : na = nb
  case neg =>
    have hq : (na.toList == nb.toList) = false := tl_ne hn
    have hq' : (na.toList != nb.toList) = true := by simp only [bne, hq, Bool.not_false]
    have hne : Hid ((⟨na, sa, pa, l, ka⟩ : Sr) ≠ ⟨nb, sb, pb, m, kb⟩) := Lib.hid (fun h => hn (congrArg Sr.name h))
    clear hn
    go_enter Try.func25, Try.ntmps25
    go_wp2
    go_ret
    exact ⟨⟨_, rfl, fun h => (by cases h), fun h => absurd h hne.out⟩, (by repeat (first | exact Gr.refl _ | refine Gr.alloc ?_ _ | refine Gr.drew ?_ | refine Gr.setCell ?_ (by first | (simp; done) | (simp; omega) | omega) _ | refine Gr.trans ?_ (by assumption)))⟩
  subst hn
  by_cases hs : sa = sb
  case neg =>
    have hq : (sa == sb) = false := beq_eq_false_iff_ne.2 hs
    have hq' : (sa != sb) = true := by simp only [bne, hq, Bool.not_false]
    have hne : Hid ((⟨na, sa, pa, l, ka⟩ : Sr) ≠ ⟨na, sb, pb, m, kb⟩) := Lib.hid (fun h => hs (congrArg Sr.start h))
    clear hs
    go_enter Try.func25, Try.ntmps25
    go_wp2
    go_ret
    exact ⟨⟨_, rfl, fun h => (by cases h), fun h => absurd h hne.out⟩, (by repeat (first | exact Gr.refl _ | refine Gr.alloc ?_ _ | refine Gr.drew ?_ | refine Gr.setCell ?_ (by first | (simp; done) | (simp; omega) | omega) _ | refine Gr.trans ?_ (by assumption)))⟩
  subst hs
  by_cases hp : pa = pb
  case neg =>
    have hq : (pa == pb) = false := beq_eq_false_iff_ne.2 hp
    have hq' : (pa != pb) = true := by simp only [bne, hq, Bool.not_false]
    have hne : Hid ((⟨na, sa, pa, l, ka⟩ : Sr) ≠ ⟨na, sa, pb, m, kb⟩) := Lib.hid (fun h => hp (congrArg Sr.step h))
    clear hp
    go_enter Try.func25, Try.ntmps25
    go_wp2
    go_ret
    exact ⟨⟨_, rfl, fun h => (by cases h), fun h => absurd h hne.out⟩, (by repeat (first | exact Gr.refl _ | refine Gr.alloc ?_ _ | refine Gr.drew ?_ | refine Gr.setCell ?_ (by first | (simp; done) | (simp; omega) | omega) _ | refine Gr.trans ?_ (by assumption)))⟩
  subst hp
  by_cases hk : ka = kb
  case neg =>
    have hq : (ka == kb) = false := beq_eq_false_iff_ne.2 hk
    have hq' : (ka != kb) = true := by simp only [bne, hq, Bool.not_false]
    have hne : Hid ((⟨na, sa, pa, l, ka⟩ : Sr) ≠ ⟨na, sa, pa, m, kb⟩) := Lib.hid (fun h => hk (congrArg Sr.cons h))
    clear hk
    go_enter Try.func25, Try.ntmps25
    go_wp2
    go_ret
    exact ⟨⟨_, rfl, fun h => (by cases h), fun h => absurd h hne.out⟩, (by repeat (first | exact Gr.refl _ | refine Gr.alloc ?_ _ | refine Gr.drew ?_ | refine Gr.setCell ?_ (by first | (simp; done) | (simp; omega) | omega) _ | refine Gr.trans ?_ (by assumption)))⟩
  subst hk
  go_enter Try.func25, Try.ntmps25
  go_wp2_with fail
  refine (equal_any A A' c c' l m _ hl hm ?hr ?hr').mono ?_
  case hr => exact hr.gr (by repeat (first | exact Gr.refl _ | refine Gr.alloc ?_ _ | refine Gr.drew ?_ | refine Gr.setCell ?_ (by first | (simp; done) | (simp; omega) | omega) _ | refine Gr.trans ?_ (by assumption)))
  case hr' => exact hr'.gr (by repeat (first | exact Gr.refl _ | refine Gr.alloc ?_ _ | refine Gr.drew ?_ | refine Gr.setCell ?_ (by first | (simp; done) | (simp; omega) | omega) _ | refine Gr.trans ?_ (by assumption)))
  rintro e w1 ⟨⟨b, rfl, hb⟩, hg⟩
  have Hb := Lib.hid hb; clear hb
  cases b
  all_goals
    go_wp2
    go_ret
    exact ⟨⟨_, rfl, fun h => (by first | rw [Hb.out.1 (by trivial)] | cases h), fun h => (by first | rfl | exact Hb.out.2 (congrArg Sr.vals h))⟩, (by repeat (first | exact Gr.refl _ | refine Gr.alloc ?_ _ | refine Gr.drew ?_ | refine Gr.setCell ?_ (by first | (simp; done) | (simp; omega) | omega) _ | refine Gr.trans ?_ (by assumption)))⟩

set_option maxRecDepth 100000 in
set_option maxHeartbeats 3200000 in
theorem rsame_any (na nb : ByteArray) (sa sb pa pb ka kb : Int) (l m : List Vl) (A A' : Option Addr) (c c' : Nat) (w : World) (hl : l.length ≤ 1000000) (hm : m.length ≤ 1000000) (hr : Rv w A l) (hr' : Rv w A' m) :
    Calls Try.prog 26 #[.agg #[.string na, .int .i64 sa, .int .i64 pa, .slice A l.length c, .int .i64 ka], (.agg #[.string nb, .int .i64 sb, .int .i64 pb, .slice A' m.length c', .int .i64 kb])] w (RetB ((⟨na, sa, pa, l, ka⟩ : Sr) = ⟨nb, sb, pb, m, kb⟩) w) := by
  have hl1 : (l.length : Int) ≤ 1000000 := by omega
  have hm1 : (m.length : Int) ≤ 1000000 := by omega
  by_cases hn : na = nb
  case neg =>
    have hq : (na.toList == nb.toList) = false := tl_ne hn
    have hq' : (na.toList != nb.toList) = true := by simp only [bne, hq, Bool.not_false]
    have hne : Hid ((⟨na, sa, pa, l, ka⟩ : Sr) ≠ ⟨nb, sb, pb, m, kb⟩) := Lib.hid (fun h => hn (congrArg Sr.name h))
    clear hn
    go_enter Try.func26, Try.ntmps26
    go_wp2
    go_ret
    exact ⟨⟨_, rfl, fun h => (by cases h), fun h => absurd h hne.out⟩, (by repeat (first | exact Gr.refl _ | refine Gr.alloc ?_ _ | refine Gr.drew ?_ | refine Gr.setCell ?_ (by first | (simp; done) | (simp; omega) | omega) _ | refine Gr.trans ?_ (by assumption)))⟩
  subst hn
  by_cases hs : sa = sb
  case neg =>
    have hq : (sa == sb) = false := beq_eq_false_iff_ne.2 hs
    have hq' : (sa != sb) = true := by simp only [bne, hq, Bool.not_false]
    have hne : Hid ((⟨na, sa, pa, l, ka⟩ : Sr) ≠ ⟨na, sb, pb, m, kb⟩) := Lib.hid (fun h => hs (congrArg Sr.start h))
    clear hs
    go_enter Try.func26, Try.ntmps26
    go_wp2
    go_ret
    exact ⟨⟨_, rfl, fun h => (by cases h), fun h => absurd h hne.out⟩, (by repeat (first | exact Gr.refl _ | refine Gr.alloc ?_ _ | refine Gr.drew ?_ | refine Gr.setCell ?_ (by first | (simp; done) | (simp; omega) | omega) _ | refine Gr.trans ?_ (by assumption)))⟩
  subst hs
  by_cases hp : pa = pb
  case neg =>
    have hq : (pa == pb) = false := beq_eq_false_iff_ne.2 hp
    have hq' : (pa != pb) = true := by simp only [bne, hq, Bool.not_false]
    have hne : Hid ((⟨na, sa, pa, l, ka⟩ : Sr) ≠ ⟨na, sa, pb, m, kb⟩) := Lib.hid (fun h => hp (congrArg Sr.step h))
    clear hp
    go_enter Try.func26, Try.ntmps26
    go_wp2
    go_ret
    exact ⟨⟨_, rfl, fun h => (by cases h), fun h => absurd h hne.out⟩, (by repeat (first | exact Gr.refl _ | refine Gr.alloc ?_ _ | refine Gr.drew ?_ | refine Gr.setCell ?_ (by first | (simp; done) | (simp; omega) | omega) _ | refine Gr.trans ?_ (by assumption)))⟩
  subst hp
  by_cases hk : ka = kb
  case neg =>
    have hq : (ka == kb) = false := beq_eq_false_iff_ne.2 hk
    have hq' : (ka != kb) = true := by simp only [bne, hq, Bool.not_false]
    have hne : Hid ((⟨na, sa, pa, l, ka⟩ : Sr) ≠ ⟨na, sa, pa, m, kb⟩) := Lib.hid (fun h => hk (congrArg Sr.cons h))
    clear hk
    go_enter Try.func26, Try.ntmps26
    go_wp2
    go_ret
    exact ⟨⟨_, rfl, fun h => (by cases h), fun h => absurd h hne.out⟩, (by repeat (first | exact Gr.refl _ | refine Gr.alloc ?_ _ | refine Gr.drew ?_ | refine Gr.setCell ?_ (by first | (simp; done) | (simp; omega) | omega) _ | refine Gr.trans ?_ (by assumption)))⟩
  subst hk
  by_cases hlen : l.length = m.length
  case neg =>
    have hq : ((l.length : Int) != (m.length : Int)) = true := by simp; omega
    have hq' : ((l.length : Int) == (m.length : Int)) = false := by simp; omega
    have hq2 : (l.length == m.length) = false := by simp; omega
    have hne : Hid ((⟨na, sa, pa, l, ka⟩ : Sr) ≠ ⟨na, sa, pa, m, ka⟩) := Lib.hid (fun h => hlen (congrArg List.length (congrArg Sr.vals h)))
    clear hlen
    go_enter Try.func26, Try.ntmps26
    go_wp2
    go_ret
    exact ⟨⟨_, rfl, fun h => (by cases h), fun h => absurd h hne.out⟩, (by repeat (first | exact Gr.refl _ | refine Gr.alloc ?_ _ | refine Gr.drew ?_ | refine Gr.setCell ?_ (by first | (simp; done) | (simp; omega) | omega) _ | refine Gr.trans ?_ (by assumption)))⟩
  rw [← hlen]
  have HL := Lib.hid hlen; clear hlen
  have HL2 : Hid (∀ k, k < l.length → k < m.length) := Lib.hid (fun k h => by rw [← HL.out]; exact h)
  go_enter Try.func26, Try.ntmps26
  go_wp2
  go_loopw [5] (fun i wr => ∃ k : Nat, k ≤ l.length ∧ i = .int .i64 k ∧ Gr w wr ∧ Hid (l.take k = m.take k) ∧ wr.cell? ⟨w.heap.size, 3, none⟩ = some (.slice A l.length c) ∧ wr.cell? ⟨w.heap.size + 1, 3, none⟩ = some (.slice A' l.length c')) (fun i _ => l.length - (intOf i).toNat)
  case atStart => exact ⟨0, Nat.zero_le _, rfl, (by repeat (first | exact Gr.refl _ | refine Gr.alloc ?_ _ | refine Gr.drew ?_ | refine Gr.setCell ?_ (by first | (simp; done) | (simp; omega) | omega) _ | refine Gr.trans ?_ (by assumption))), Lib.hid rfl, by go_simp, by go_simp⟩
  case round =>
    obtain ⟨k, hk, rfl, hgr, ht, hc3, hd3⟩ := hrel
    by_cases hlt : k < l.length
    · 
      obtain ⟨ad, rfl, hb, hx0, hx1⟩ := (hr.gr hgr).at hlt
      have hlt' := HL2.out k hlt
      obtain ⟨ad', rfl, hb', hy0, hy1⟩ := (hr'.gr hgr).at hlt'
      have Ht := Lib.hid (take_eq hlt hlt' ht.out)
      have Hn := Lib.hid (at_ne hlt hlt')
      obtain ⟨x, hxk⟩ : ∃ x, l[k] = x := ⟨_, rfl⟩
      obtain ⟨y, hyk⟩ : ∃ y, m[k] = y := ⟨_, rfl⟩
      rw [hxk] at hx0 hx1 Ht Hn
      rw [hyk] at hy0 hy1 Ht Hn
      have HX := Lib.hid (And.intro hxk hyk); clear hxk hyk
      cases hq0 : (x.ok == y.ok)
      case false =>
        have hne : Hid (x ≠ y) := Lib.hid (fun h => by rw [h] at hq0; simp at hq0)
        cases hq1 : (x.n == y.n)
        all_goals
          go_wp2
          go_quiet (fail)
          go_wp2
          go_ret
          exact ⟨⟨_, rfl, fun h => (by cases h), fun h => absurd h (fun h => (Hn.out hne.out) (congrArg Sr.vals h))⟩, (by repeat (first | exact Gr.refl _ | assumption | refine Gr.drewN ?_ _ | refine Gr.alloc ?_ _ | refine Gr.drew ?_ | refine Gr.setCell ?_ (by first | (simp; done) | (simp; omega) | omega) _ | refine Gr.trans ?_ (by assumption)))⟩
      case true =>
        cases hq1 : (x.n == y.n)
        case false =>
          have hne : Hid (x ≠ y) := Lib.hid (fun h => by rw [h] at hq1; simp at hq1)
          go_wp2
          go_quiet (fail)
          go_wp2
          go_ret
          exact ⟨⟨_, rfl, fun h => (by cases h), fun h => absurd h (fun h => (Hn.out hne.out) (congrArg Sr.vals h))⟩, (by repeat (first | exact Gr.refl _ | assumption | refine Gr.drewN ?_ _ | refine Gr.alloc ?_ _ | refine Gr.drew ?_ | refine Gr.setCell ?_ (by first | (simp; done) | (simp; omega) | omega) _ | refine Gr.trans ?_ (by assumption)))⟩
        case true =>
          have heq : Hid (x = y) := Lib.hid (vl_ext (by simpa using hq0) (by simpa using hq1))
          go_wp2
          go_quiet (fail)
          go_wp2
          go_roundw
          case rel => exact ⟨k + 1, by omega, by go_num, (by repeat (first | exact Gr.refl _ | assumption | refine Gr.drewN ?_ _ | refine Gr.alloc ?_ _ | refine Gr.drew ?_ | refine Gr.setCell ?_ (by first | (simp; done) | (simp; omega) | omega) _ | refine Gr.trans ?_ (by assumption))), Lib.hid (Ht.out heq.out), hc3, hd3⟩
          case measure => simp [intOf]; omega
    · have hkk : k = l.length := by omega
      subst hkk
      have Heq : Hid (l = m) := Lib.hid (by have := ht.out; rw [List.take_length, HL.out, List.take_length] at this; exact this)
      go_wp2
      go_ret
      exact ⟨⟨_, rfl, fun _ => by rw [Heq.out], fun _ => rfl⟩, (by repeat (first | exact Gr.refl _ | refine Gr.alloc ?_ _ | refine Gr.drew ?_ | refine Gr.setCell ?_ (by first | (simp; done) | (simp; omega) | omega) _ | refine Gr.trans ?_ (by assumption)))⟩

set_option maxRecDepth 100000 in
set_option maxHeartbeats 3200000 in
theorem lsame_any (na nb : ByteArray) (sa sb pa pb ka kb : Int) (l m : List Vl) (A A' : Option Addr) (c c' : Nat) (w : World) (hl : l.length ≤ 1000000) (hm : m.length ≤ 1000000) (hr : Rv w A l) (hr' : Rv w A' m) :
    Calls Try.prog 12 #[.agg #[.string na, .int .i64 sa, .int .i64 pa, .slice A l.length c, .int .i64 ka], (.agg #[.string nb, .int .i64 sb, .int .i64 pb, .slice A' m.length c', .int .i64 kb])] w (RetB ((⟨na, sa, pa, l, ka⟩ : Sr) = ⟨nb, sb, pb, m, kb⟩) w) := by
  have hl1 : (l.length : Int) ≤ 1000000 := by omega
  have hm1 : (m.length : Int) ≤ 1000000 := by omega
  go_enter Try.func12, Try.ntmps12
  go_wp2_with fail
  refine (rsame_any na nb sa sb pa pb ka kb l m A A' c c' _ hl hm ?hr ?hr').mono ?_
  case hr => exact hr.gr (by repeat (first | exact Gr.refl _ | refine Gr.alloc ?_ _ | refine Gr.drew ?_ | refine Gr.setCell ?_ (by first | (simp; done) | (simp; omega) | omega) _ | refine Gr.trans ?_ (by assumption)))
  case hr' => exact hr'.gr (by repeat (first | exact Gr.refl _ | refine Gr.alloc ?_ _ | refine Gr.drew ?_ | refine Gr.setCell ?_ (by first | (simp; done) | (simp; omega) | omega) _ | refine Gr.trans ?_ (by assumption)))
  rintro e w1 ⟨⟨b, rfl, hb⟩, hg⟩
  have Hb := Lib.hid hb; clear hb
  go_wp2
  go_ret
  exact ⟨⟨_, rfl, Hb.out⟩, (by repeat (first | exact Gr.refl _ | refine Gr.alloc ?_ _ | refine Gr.drew ?_ | refine Gr.setCell ?_ (by first | (simp; done) | (simp; omega) | omega) _ | refine Gr.trans ?_ (by assumption)))⟩

end Go.Proofs.Ytoikpkgogncdhaa
