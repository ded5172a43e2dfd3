/- Contracts of slices.Equal and of Same: whether two series are one. · Facts on the names of chapter 23's functions. No program in sight. · Notions on what a series goes by. · The contracts of fpick's row.of and Of: what a series goes by. · The contracts of first, of fpick and of the reference: the first ones, as many as a value has whole ones. · Series joined and shrunk, plainly: what they are, and the laws SeriesCommon, SeriesBuckets, SeriesItself of them. No program in sight. · Contracts of what Join leans on: whether any series may not be; the least common multiple; the greatest common divisor. · Contracts of Cons, End, up and Own, of the program's package series and of the reference; of slices.Clone. · Series joined: plain laws of the loops, and what is handed back. · A region that draws its order, all of whose operations yield one value in every world of a class (here: all that was there is as it was): walked once, in the order of the text. Derived/Deep/Quiet.lean's law, one operation at a time. No program in sight. · Contracts of series.within and of its closure: the values of a series whose times lie in a span. · A region that draws its order and ends in one operation (number z: a store) for which all others wait: what its loads read (S) need not hold behind that last one. Derived/OrdersHeld.lean's law in that make. No program in sight. · What Fit's walk stands on: append at one operation of a drawn region; the cells that a series' making holds. No program in sight. · The contract of series.Fit: a series at other times. · Contracts of Own: a series in memory of its own, of the program's package series and of the reference. · The contract of series.Fit: a series at other times. · The contracts of series.Fit (whole) and of series.Shrink. · The contract of the law's known: what is shrunk. · The contracts of fpick's closures that tell whether a series stays, and of those. -/
import Derived.Test.YtbdichmkgcngbaaGreatSrIs
import Derived.Lib.Hide
import Derived.BigQuiet
import Derived.Test.YtbdichmkgcngbaaGreatMgE
import Derived.Test.YtbdichmkgcngbaaGreatFpRow
import Derived.Test.YtbdichmkgcngbaaGreatMgF
import Derived.Test.YtbdichmkgcngbaaGreatMgA
import Derived.Outline
import Derived.Lib.SliceRun
import Derived.Deep.Quiet
import Derived.OrdersHeld
import Derived.Deep.RegionHeld
import Derived.StillTail
namespace Go.Proofs.YtbdichmkgcngbaaGreat
set_option linter.unusedVariables false
set_option linter.unusedSimpArgs false
open Go.RowKit

theorem tl_of {a b : ByteArray} (h : a.toList = b.toList) : a = b := by
  rw [ByteArray.toList_eq, ByteArray.toList_eq] at h
  cases a; cases b; simp at h; rw [h]
theorem tl_ne {a b : ByteArray} (h : a ≠ b) : (a.toList == b.toList) = false := beq_eq_false_iff_ne.2 fun e => h (tl_of e)
theorem vl_ext {a b : Vl} (h0 : a.ok = b.ok) (h1 : a.n = b.n) : a = b := by
  cases a; cases b; simp at h0 h1; subst h0 h1; rfl
theorem take_eq {l m : List Vl} {k : Nat} (hl : k < l.length) (hm : k < m.length) (h : l.take k = m.take k) (e : l[k] = m[k]) : l.take (k + 1) = m.take (k + 1) := by
  rw [List.take_succ_eq_append_getElem hl, List.take_succ_eq_append_getElem hm, h, e]
theorem at_ne {l m : List Vl} {k : Nat} (hl : k < l.length) (hm : k < m.length) (e : l[k] ≠ m[k]) : l ≠ m := by
  intro h; subst h; exact e rfl

/-- a Bool that tells p is handed back. -/
def RetB (p : Prop) (w : World) (e : Ending) (w' : World) : Prop := (∃ b : Bool, e = .returned (.bool b) ∧ (b = true ↔ p)) ∧ Gr w w'
set_option maxRecDepth 100000 in
set_option maxHeartbeats 3200000 in
theorem rsame_any (na nb : ByteArray) (sa sb pa pb ka kb : Int) (l m : List Vl) (A A' : Option Addr) (c c' : Nat) (w : World) (hl : l.length ≤ 1000000) (hm : m.length ≤ 1000000) (hr : Rv w A l) (hr' : Rv w A' m) :
    Calls Tryz.prog 73 #[.agg #[.string na, .int .i64 sa, .int .i64 pa, .slice A l.length c, .int .i64 ka], (.agg #[.string nb, .int .i64 sb, .int .i64 pb, .slice A' m.length c', .int .i64 kb])] w (RetB ((⟨na, sa, pa, l, ka⟩ : Sr) = ⟨nb, sb, pb, m, kb⟩) w) := by
  have hl1 : (l.length : Int) ≤ 1000000 := by omega
  have hm1 : (m.length : Int) ≤ 1000000 := by omega
  by_cases hn : na = nb
  case neg =>
    have hq : (na.toList == nb.toList) = false := tl_ne hn
    have hq' : (na.toList != nb.toList) = true := by simp only [bne, hq, Bool.not_false]
    have hne : Hid ((⟨na, sa, pa, l, ka⟩ : Sr) ≠ ⟨nb, sb, pb, m, kb⟩) := Lib.hid (fun h => hn (congrArg Sr.name h))
    clear hn
    go_enter Tryz.func73, Tryz.ntmps73
    go_wp2
    go_ret
    exact ⟨⟨_, rfl, fun h => (by cases h), fun h => absurd h hne.out⟩, (by repeat (first | exact Gr.refl _ | refine Gr.alloc ?_ _ | refine Gr.drew ?_ | refine Gr.setCell ?_ (by first | (simp; done) | (simp; omega) | omega) _ | refine Gr.trans ?_ (by assumption)))⟩
  subst hn
  by_cases hs : sa = sb
  case neg =>
    have hq : (sa == sb) = false := beq_eq_false_iff_ne.2 hs
    have hq' : (sa != sb) = true := by simp only [bne, hq, Bool.not_false]
    have hne : Hid ((⟨na, sa, pa, l, ka⟩ : Sr) ≠ ⟨na, sb, pb, m, kb⟩) := Lib.hid (fun h => hs (congrArg Sr.start h))
    clear hs
    go_enter Tryz.func73, Tryz.ntmps73
    go_wp2
    go_ret
    exact ⟨⟨_, rfl, fun h => (by cases h), fun h => absurd h hne.out⟩, (by repeat (first | exact Gr.refl _ | refine Gr.alloc ?_ _ | refine Gr.drew ?_ | refine Gr.setCell ?_ (by first | (simp; done) | (simp; omega) | omega) _ | refine Gr.trans ?_ (by assumption)))⟩
  subst hs
  by_cases hp : pa = pb
  case neg =>
    have hq : (pa == pb) = false := beq_eq_false_iff_ne.2 hp
    have hq' : (pa != pb) = true := by simp only [bne, hq, Bool.not_false]
    have hne : Hid ((⟨na, sa, pa, l, ka⟩ : Sr) ≠ ⟨na, sa, pb, m, kb⟩) := Lib.hid (fun h => hp (congrArg Sr.step h))
    clear hp
    go_enter Tryz.func73, Tryz.ntmps73
    go_wp2
    go_ret
    exact ⟨⟨_, rfl, fun h => (by cases h), fun h => absurd h hne.out⟩, (by repeat (first | exact Gr.refl _ | refine Gr.alloc ?_ _ | refine Gr.drew ?_ | refine Gr.setCell ?_ (by first | (simp; done) | (simp; omega) | omega) _ | refine Gr.trans ?_ (by assumption)))⟩
  subst hp
  by_cases hk : ka = kb
  case neg =>
    have hq : (ka == kb) = false := beq_eq_false_iff_ne.2 hk
    have hq' : (ka != kb) = true := by simp only [bne, hq, Bool.not_false]
    have hne : Hid ((⟨na, sa, pa, l, ka⟩ : Sr) ≠ ⟨na, sa, pa, m, kb⟩) := Lib.hid (fun h => hk (congrArg Sr.cons h))
    clear hk
    go_enter Tryz.func73, Tryz.ntmps73
    go_wp2
    go_ret
    exact ⟨⟨_, rfl, fun h => (by cases h), fun h => absurd h hne.out⟩, (by repeat (first | exact Gr.refl _ | refine Gr.alloc ?_ _ | refine Gr.drew ?_ | refine Gr.setCell ?_ (by first | (simp; done) | (simp; omega) | omega) _ | refine Gr.trans ?_ (by assumption)))⟩
  subst hk
  by_cases hlen : l.length = m.length
  case neg =>
    have hq : ((l.length : Int) != (m.length : Int)) = true := by simp; omega
    have hq' : ((l.length : Int) == (m.length : Int)) = false := by simp; omega
    have hq2 : (l.length == m.length) = false := by simp; omega
    have hne : Hid ((⟨na, sa, pa, l, ka⟩ : Sr) ≠ ⟨na, sa, pa, m, ka⟩) := Lib.hid (fun h => hlen (congrArg List.length (congrArg Sr.vals h)))
    clear hlen
    go_enter Tryz.func73, Tryz.ntmps73
    go_wp2
    go_ret
    exact ⟨⟨_, rfl, fun h => (by cases h), fun h => absurd h hne.out⟩, (by repeat (first | exact Gr.refl _ | refine Gr.alloc ?_ _ | refine Gr.drew ?_ | refine Gr.setCell ?_ (by first | (simp; done) | (simp; omega) | omega) _ | refine Gr.trans ?_ (by assumption)))⟩
  rw [← hlen]
  have HL := Lib.hid hlen; clear hlen
  have HL2 : Hid (∀ k, k < l.length → k < m.length) := Lib.hid (fun k h => by rw [← HL.out]; exact h)
  go_enter Tryz.func73, Tryz.ntmps73
  go_wp2
  go_loopw [5] (fun i wr => ∃ k : Nat, k ≤ l.length ∧ i = .int .i64 k ∧ Gr w wr ∧ Hid (l.take k = m.take k) ∧ wr.cell? ⟨w.heap.size, 3, none⟩ = some (.slice A l.length c) ∧ wr.cell? ⟨w.heap.size + 1, 3, none⟩ = some (.slice A' l.length c')) (fun i _ => l.length - (intOf i).toNat)
  case atStart => exact ⟨0, Nat.zero_le _, rfl, (by repeat (first | exact Gr.refl _ | refine Gr.alloc ?_ _ | refine Gr.drew ?_ | refine Gr.setCell ?_ (by first | (simp; done) | (simp; omega) | omega) _ | refine Gr.trans ?_ (by assumption))), Lib.hid rfl, by go_simp, by go_simp⟩
  case round =>
    obtain ⟨k, hk, rfl, hgr, ht, hc3, hd3⟩ := hrel
    by_cases hlt : k < l.length
    · 
      obtain ⟨ad, rfl, hb, hx0, hx1⟩ := (hr.gr hgr).at hlt
      have hlt' := HL2.out k hlt
      obtain ⟨ad', rfl, hb', hy0, hy1⟩ := (hr'.gr hgr).at hlt'
      have Ht := Lib.hid (take_eq hlt hlt' ht.out)
      have Hn := Lib.hid (at_ne hlt hlt')
      obtain ⟨x, hxk⟩ : ∃ x, l[k] = x := ⟨_, rfl⟩
      obtain ⟨y, hyk⟩ : ∃ y, m[k] = y := ⟨_, rfl⟩
      rw [hxk] at hx0 hx1 Ht Hn
      rw [hyk] at hy0 hy1 Ht Hn
      have HX := Lib.hid (And.intro hxk hyk); clear hxk hyk
      cases hq0 : (x.ok == y.ok)
      case false =>
        have hne : Hid (x ≠ y) := Lib.hid (fun h => by rw [h] at hq0; simp at hq0)
        cases hq1 : (x.n == y.n)
        all_goals
          go_wp2
          go_quiet (fail)
          go_wp2
          go_ret
          exact ⟨⟨_, rfl, fun h => (by cases h), fun h => absurd h (fun h => (Hn.out hne.out) (congrArg Sr.vals h))⟩, (by repeat (first | exact Gr.refl _ | assumption | refine Gr.drewN ?_ _ | refine Gr.alloc ?_ _ | refine Gr.drew ?_ | refine Gr.setCell ?_ (by first | (simp; done) | (simp; omega) | omega) _ | refine Gr.trans ?_ (by assumption)))⟩
      case true =>
        cases hq1 : (x.n == y.n)
        case false =>
          have hne : Hid (x ≠ y) := Lib.hid (fun h => by rw [h] at hq1; simp at hq1)
          go_wp2
          go_quiet (fail)
          go_wp2
          go_ret
          exact ⟨⟨_, rfl, fun h => (by cases h), fun h => absurd h (fun h => (Hn.out hne.out) (congrArg Sr.vals h))⟩, (by repeat (first | exact Gr.refl _ | assumption | refine Gr.drewN ?_ _ | refine Gr.alloc ?_ _ | refine Gr.drew ?_ | refine Gr.setCell ?_ (by first | (simp; done) | (simp; omega) | omega) _ | refine Gr.trans ?_ (by assumption)))⟩
        case true =>
          have heq : Hid (x = y) := Lib.hid (vl_ext (by simpa using hq0) (by simpa using hq1))
          go_wp2
          go_quiet (fail)
          go_wp2
          go_roundw
          case rel => exact ⟨k + 1, by omega, by go_num, (by repeat (first | exact Gr.refl _ | assumption | refine Gr.drewN ?_ _ | refine Gr.alloc ?_ _ | refine Gr.drew ?_ | refine Gr.setCell ?_ (by first | (simp; done) | (simp; omega) | omega) _ | refine Gr.trans ?_ (by assumption))), Lib.hid (Ht.out heq.out), hc3, hd3⟩
          case measure => simp [intOf]; omega
    · have hkk : k = l.length := by omega
      subst hkk
      have Heq : Hid (l = m) := Lib.hid (by have := ht.out; rw [List.take_length, HL.out, List.take_length] at this; exact this)
      go_wp2
      go_ret
      exact ⟨⟨_, rfl, fun _ => by rw [Heq.out], fun _ => rfl⟩, (by repeat (first | exact Gr.refl _ | refine Gr.alloc ?_ _ | refine Gr.drew ?_ | refine Gr.setCell ?_ (by first | (simp; done) | (simp; omega) | omega) _ | refine Gr.trans ?_ (by assumption)))⟩

end Go.Proofs.YtbdichmkgcngbaaGreat
namespace Go.Proofs.YtbdichmkgcngbaaGreat
set_option linter.unusedVariables false
set_option linter.unusedSimpArgs false
open Go.RowKit

theorem name_cases (nm : ByteArray) : (findF nm = none ∧ ∀ r ∈ rowsL, nm ≠ r.nm) ∨ ∃ r ∈ rowsL, nm = r.nm ∧ findF nm = some r := by
  cases h : findF nm with
  | none =>
    refine .inl ⟨rfl, fun r hr e => ?_⟩
    have := List.find?_eq_none.1 h r hr
    apply this
    unfold isNm
    rw [e]
    exact beq_self_eq_true _
  | some r =>
    have h1 := List.find?_some h
    have h2 := List.mem_of_find?_eq_some h
    refine .inr ⟨r, h2, ?_, rfl⟩
    unfold isNm at h1
    exact (tl_of (by simpa using h1)).symm
/-- what is told of each row alone holds of the row found. -/
theorem row_all {P : Fr → Prop} (h0 : P noFr) (h : ∀ r ∈ rowsL, P r) (nm : ByteArray) : P (rowF nm) := by
  unfold rowF
  rcases name_cases nm with ⟨e, _⟩ | ⟨r, hr, _, e⟩
  · rw [e]; exact h0
  · rw [e]; exact h r hr
theorem rowF_some {nm : ByteArray} (h : (findF nm).isSome = true) : rowF nm ∈ rowsL ∧ nm = (rowF nm).nm := by
  rcases name_cases nm with ⟨e, _⟩ | ⟨r, hr, hn, e⟩
  · rw [e] at h; cases h
  · unfold rowF; rw [e]; exact ⟨hr, hn⟩
theorem nm_is {nm : ByteArray} {r : Fr} {l : List UInt8} {b : Bool} (h : nm = r.nm) (hb : (r.nm.data.toList == l) = b) : (nm.toList == l) = b := by
  rw [h, ByteArray.toList_eq]; exact hb
theorem nm_not {nm : ByteArray} (h : ∀ r ∈ rowsL, nm ≠ r.nm) {r : Fr} (hr : r ∈ rowsL) {l : List UInt8} (hl : r.nm.data.toList = l) : (nm.toList == l) = false := by
  rw [beq_eq_false_iff_ne]
  intro e
  refine h r hr (tl_of ?_)
  rw [e, ByteArray.toList_eq, hl]
theorem aggV_none {k : Int} (h : k < 1 ∨ 5 < k) (l : List Vl) : aggV k l = ⟨false, 0⟩ := by
  unfold aggV ofK
  split
  · rw [if_neg (by omega), if_neg (by omega), if_neg (by omega), if_neg (by omega), if_neg (by omega)]
  · rfl
theorem bif_isB (b : Bool) (x : Vl) (h : isB x = true) : isB (bif b then x else ⟨false, 0⟩) = true := by
  cases b
  · rfl
  · exact h
theorem sqrtV_isB (a : Vl) : isB (sqrtV a) = true := bif_isB _ _ (ofV_isB _)
theorem devV_isB (l : List Vl) : isB (devV l) = true := bif_isB _ _ (sqrtV_isB _)
theorem ofR_isB (b : Int) (l : List Vl) : isB (ofR b l) = true := by
  unfold ofR
  split
  · exact devV_isB l
  · exact aggV_isB _ _
def R0 : Fr := ⟨⟨#[97, 118, 101, 114, 97, 103, 101, 65, 98, 111, 118, 101]⟩, 5, 1, false⟩
def R1 : Fr := ⟨⟨#[97, 118, 101, 114, 97, 103, 101, 66, 101, 108, 111, 119]⟩, 6, 1, false⟩
def R2 : Fr := ⟨⟨#[99, 117, 114, 114, 101, 110, 116, 65, 98, 111, 118, 101]⟩, 5, 3, false⟩
def R3 : Fr := ⟨⟨#[99, 117, 114, 114, 101, 110, 116, 66, 101, 108, 111, 119]⟩, 6, 3, false⟩
def R4 : Fr := ⟨⟨#[101, 120, 99, 108, 117, 100, 101]⟩, 0, 0, false⟩
def R5 : Fr := ⟨⟨#[103, 114, 101, 112]⟩, 0, 0, false⟩
def R6 : Fr := ⟨⟨#[104, 105, 103, 104, 101, 115, 116, 65, 118, 101, 114, 97, 103, 101]⟩, 4, 1, false⟩
def R7 : Fr := ⟨⟨#[104, 105, 103, 104, 101, 115, 116, 67, 117, 114, 114, 101, 110, 116]⟩, 4, 3, false⟩
def R8 : Fr := ⟨⟨#[104, 105, 103, 104, 101, 115, 116, 77, 97, 120]⟩, 4, 4, false⟩
def R9 : Fr := ⟨⟨#[108, 105, 109, 105, 116]⟩, 1, 0, false⟩
def R10 : Fr := ⟨⟨#[108, 111, 119, 101, 115, 116, 65, 118, 101, 114, 97, 103, 101]⟩, 4, 1, true⟩
def R11 : Fr := ⟨⟨#[108, 111, 119, 101, 115, 116, 67, 117, 114, 114, 101, 110, 116]⟩, 4, 3, true⟩
def R12 : Fr := ⟨⟨#[109, 97, 120, 105, 109, 117, 109, 65, 98, 111, 118, 101]⟩, 5, 4, false⟩
def R13 : Fr := ⟨⟨#[109, 97, 120, 105, 109, 117, 109, 66, 101, 108, 111, 119]⟩, 6, 4, false⟩
def R14 : Fr := ⟨⟨#[109, 105, 110, 105, 109, 117, 109, 65, 98, 111, 118, 101]⟩, 5, 5, false⟩
def R15 : Fr := ⟨⟨#[109, 105, 110, 105, 109, 117, 109, 66, 101, 108, 111, 119]⟩, 6, 5, false⟩
def R16 : Fr := ⟨⟨#[109, 111, 115, 116, 68, 101, 118, 105, 97, 110, 116]⟩, 4, 6, false⟩
def R17 : Fr := ⟨⟨#[114, 101, 109, 111, 118, 101, 69, 109, 112, 116, 121, 83, 101, 114, 105, 101, 115]⟩, 7, 0, false⟩
def R18 : Fr := ⟨⟨#[115, 111, 114, 116, 66, 121, 77, 97, 120, 105, 109, 97]⟩, 3, 4, false⟩
def R19 : Fr := ⟨⟨#[115, 111, 114, 116, 66, 121, 77, 105, 110, 105, 109, 97]⟩, 3, 5, true⟩
def R20 : Fr := ⟨⟨#[115, 111, 114, 116, 66, 121, 78, 97, 109, 101]⟩, 2, 0, false⟩
def R21 : Fr := ⟨⟨#[115, 111, 114, 116, 66, 121, 84, 111, 116, 97, 108]⟩, 3, 2, false⟩
theorem rows_eq : rowsL = [R0, R1, R2, R3, R4, R5, R6, R7, R8, R9, R10, R11, R12, R13, R14, R15, R16, R17, R18, R19, R20, R21] := rfl
theorem R0_mem : R0 ∈ rowsL := by rw [rows_eq]; simp
theorem R1_mem : R1 ∈ rowsL := by rw [rows_eq]; simp
theorem R2_mem : R2 ∈ rowsL := by rw [rows_eq]; simp
theorem R3_mem : R3 ∈ rowsL := by rw [rows_eq]; simp
theorem R4_mem : R4 ∈ rowsL := by rw [rows_eq]; simp
theorem R5_mem : R5 ∈ rowsL := by rw [rows_eq]; simp
theorem R6_mem : R6 ∈ rowsL := by rw [rows_eq]; simp
theorem R7_mem : R7 ∈ rowsL := by rw [rows_eq]; simp
theorem R8_mem : R8 ∈ rowsL := by rw [rows_eq]; simp
theorem R9_mem : R9 ∈ rowsL := by rw [rows_eq]; simp
theorem R10_mem : R10 ∈ rowsL := by rw [rows_eq]; simp
theorem R11_mem : R11 ∈ rowsL := by rw [rows_eq]; simp
theorem R12_mem : R12 ∈ rowsL := by rw [rows_eq]; simp
theorem R13_mem : R13 ∈ rowsL := by rw [rows_eq]; simp
theorem R14_mem : R14 ∈ rowsL := by rw [rows_eq]; simp
theorem R15_mem : R15 ∈ rowsL := by rw [rows_eq]; simp
theorem R16_mem : R16 ∈ rowsL := by rw [rows_eq]; simp
theorem R17_mem : R17 ∈ rowsL := by rw [rows_eq]; simp
theorem R18_mem : R18 ∈ rowsL := by rw [rows_eq]; simp
theorem R19_mem : R19 ∈ rowsL := by rw [rows_eq]; simp
theorem R20_mem : R20 ∈ rowsL := by rw [rows_eq]; simp
theorem R21_mem : R21 ∈ rowsL := by rw [rows_eq]; simp
theorem rows_split {P : Fr → Prop} (h0 : P R0) (h1 : P R1) (h2 : P R2) (h3 : P R3) (h4 : P R4) (h5 : P R5) (h6 : P R6) (h7 : P R7) (h8 : P R8) (h9 : P R9) (h10 : P R10) (h11 : P R11) (h12 : P R12) (h13 : P R13) (h14 : P R14) (h15 : P R15) (h16 : P R16) (h17 : P R17) (h18 : P R18) (h19 : P R19) (h20 : P R20) (h21 : P R21) : ∀ r ∈ rowsL, P r := by
  intro r hr
  rw [rows_eq] at hr
  simp only [List.mem_cons, List.not_mem_nil, or_false] at hr
  rcases hr with rfl | rfl | rfl | rfl | rfl | rfl | rfl | rfl | rfl | rfl | rfl | rfl | rfl | rfl | rfl | rfl | rfl | rfl | rfl | rfl | rfl | rfl
  · exact h0
  · exact h1
  · exact h2
  · exact h3
  · exact h4
  · exact h5
  · exact h6
  · exact h7
  · exact h8
  · exact h9
  · exact h10
  · exact h11
  · exact h12
  · exact h13
  · exact h14
  · exact h15
  · exact h16
  · exact h17
  · exact h18
  · exact h19
  · exact h20
  · exact h21
end Go.Proofs.YtbdichmkgcngbaaGreat
namespace Go.Proofs.YtbdichmkgcngbaaGreat
set_option linter.unusedVariables false
set_option linter.unusedSimpArgs false
open Go.RowKit
def aggSr (s : Sr) (A : Option Addr) (c : Nat) : Value := .agg #[.string s.name, .int .i64 s.start, .int .i64 s.step, .slice A s.vals.length c, .int .i64 s.cons]
def RetVl (x : Vl) (w : World) (e : Ending) (w' : World) : Prop := e = .returned (.agg #[.bool x.ok, .int .i64 x.n]) ∧ Gr w w'
end Go.Proofs.YtbdichmkgcngbaaGreat
namespace Go.Proofs.YtbdichmkgcngbaaGreat
open Go.RowKit
set_option linter.unusedVariables false
set_option linter.unusedSimpArgs false

set_option maxRecDepth 100000 in
set_option maxHeartbeats 1600000 in
theorem rowof_any (r : Fr) (s : Sr) (A : Option Addr) (c : Nat) (w : World) (hl : s.vals.length ≤ 1000000) (hr : Rv w A s.vals) :
    Calls Tryz.prog 62 #[aggFr r, aggSr s A c] w (RetVl (ofR r.by_ s.vals) w) := by
  unfold aggFr aggSr
  by_cases h6 : r.by_ = 6
  · have hv : ofR r.by_ s.vals = devV s.vals := by unfold ofR; rw [if_pos h6]
    have hb : (r.by_ == 6) = true := by rw [h6]; rfl
    rw [hv]
    clear hv h6
    go_enter Tryz.func62, Tryz.ntmps62
    go_wp2_with fail
    refine (dev_any A c s.vals _ hl ?hr).mono ?_
    case hr => exact hr.gr (by repeat (first | exact Gr.refl _ | refine Gr.alloc ?_ _ | refine Gr.drew ?_ | refine Gr.setCell ?_ (by first | (simp; done) | (simp; omega) | omega) _ | refine Gr.trans ?_ (by assumption)))
    rintro e w1 ⟨rfl, hg⟩
    obtain ⟨hc, hf⟩ := hg.cells
    have z1 := hg.size
    simp at z1
    have z0 : w.heap.size < w1.heap.size := by omega
    have z2 : w.heap.size + 1 < w1.heap.size := by omega
    have z3 : w.heap.size + 1 + 1 < w1.heap.size := by omega
    have q0 : w1.cell? ⟨w.heap.size + 1 + 1, 0, none⟩ = some (.bool false) := by go_simp
    have q1 : w1.cell? ⟨w.heap.size + 1 + 1, 1, none⟩ = some (.int .i64 0) := by go_simp
    have f0 : w1.frozen? ⟨w.heap.size + 1 + 1, 0, none⟩ = false := by go_simp
    have f1 : w1.frozen? ⟨w.heap.size + 1 + 1, 1, none⟩ = false := by go_simp
    have gw : Gr w w1 := (by repeat (first | exact Gr.refl _ | refine Gr.alloc ?_ _ | refine Gr.drew ?_ | refine Gr.setCell ?_ (by first | (simp; done) | (simp; omega) | omega) _ | refine Gr.trans ?_ (by assumption)))
    clear hc hf hg
    go_wp2
    exact bodyPost_ret (v := .agg #[.bool (devV s.vals).ok, .int .i64 (devV s.vals).n]) (by simp [results, Tryz.results62, go_sem, *]) rfl ⟨rfl, (by repeat (first | exact Gr.refl _ | refine Gr.alloc ?_ _ | refine Gr.drew ?_ | refine Gr.setCell ?_ (by first | (simp; done) | (simp; omega) | omega) _ | refine Gr.trans ?_ (by assumption)))⟩
  · have hv : ofR r.by_ s.vals = aggV r.by_ s.vals := by unfold ofR; rw [if_neg h6]
    have hb : (r.by_ == 6) = false := beq_eq_false_iff_ne.2 h6
    rw [hv]
    clear hv h6
    go_enter Tryz.func62, Tryz.ntmps62
    go_wp2_with fail
    refine (agg_of_any r.by_ A c s.vals _ hl ?hr).mono ?_
    case hr => exact hr.gr (by repeat (first | exact Gr.refl _ | refine Gr.alloc ?_ _ | refine Gr.drew ?_ | refine Gr.setCell ?_ (by first | (simp; done) | (simp; omega) | omega) _ | refine Gr.trans ?_ (by assumption)))
    rintro e w1 ⟨rfl, hg⟩
    obtain ⟨hc, hf⟩ := hg.cells
    have z1 := hg.size
    simp at z1
    have z0 : w.heap.size < w1.heap.size := by omega
    have z2 : w.heap.size + 1 < w1.heap.size := by omega
    have z3 : w.heap.size + 1 + 1 < w1.heap.size := by omega
    have q0 : w1.cell? ⟨w.heap.size + 1 + 1, 0, none⟩ = some (.bool false) := by go_simp
    have q1 : w1.cell? ⟨w.heap.size + 1 + 1, 1, none⟩ = some (.int .i64 0) := by go_simp
    have f0 : w1.frozen? ⟨w.heap.size + 1 + 1, 0, none⟩ = false := by go_simp
    have f1 : w1.frozen? ⟨w.heap.size + 1 + 1, 1, none⟩ = false := by go_simp
    have gw : Gr w w1 := (by repeat (first | exact Gr.refl _ | refine Gr.alloc ?_ _ | refine Gr.drew ?_ | refine Gr.setCell ?_ (by first | (simp; done) | (simp; omega) | omega) _ | refine Gr.trans ?_ (by assumption)))
    clear hc hf hg
    go_wp2
    exact bodyPost_ret (v := .agg #[.bool (aggV r.by_ s.vals).ok, .int .i64 (aggV r.by_ s.vals).n]) (by simp [results, Tryz.results62, go_sem, *]) rfl ⟨rfl, (by repeat (first | exact Gr.refl _ | refine Gr.alloc ?_ _ | refine Gr.drew ?_ | refine Gr.setCell ?_ (by first | (simp; done) | (simp; omega) | omega) _ | refine Gr.trans ?_ (by assumption)))⟩

set_option maxRecDepth 100000 in
set_option maxHeartbeats 1600000 in
theorem fof_any (nm : ByteArray) (s : Sr) (A : Option Addr) (c : Nat) (w : World) (hl : s.vals.length ≤ 1000000) (hr : Rv w A s.vals) :
    Calls Tryz.prog 42 #[.string nm, aggSr s A c] w (RetVl (ofR (rowF nm).by_ s.vals) w) := by
  unfold aggSr
  have Q := fun w => find_any nm w
  have Q2 := fun w hr => rowof_any (rowF nm) s A c w hl hr
  unfold RetFind aggFr at Q
  unfold aggFr aggSr at Q2
  generalize rowF nm = r at Q Q2 ⊢
  generalize (findF nm).isSome = b at Q
  go_enter Tryz.func42, Tryz.ntmps42
  go_wp2_with fail
  refine (Q _).mono ?_
  rintro e w1 ⟨rfl, hg⟩
  obtain ⟨hc, hf⟩ := hg.cells
  have z1 := hg.size
  simp at z1
  have z0 : w.heap.size < w1.heap.size := by omega
  have z2 : w.heap.size + 1 < w1.heap.size := by omega
  have gw : Gr w w1 := (by repeat (first | exact Gr.refl _ | refine Gr.alloc ?_ _ | refine Gr.drew ?_ | refine Gr.setCell ?_ (by first | (simp; done) | (simp; omega) | omega) _ | refine Gr.trans ?_ (by assumption)))
  have r0 : w1.cell? ⟨w.heap.size, 0, none⟩ = some (.string s.name) := by go_simp
  have r1 : w1.cell? ⟨w.heap.size, 1, none⟩ = some (.int .i64 s.start) := by go_simp
  have r2 : w1.cell? ⟨w.heap.size, 2, none⟩ = some (.int .i64 s.step) := by go_simp
  have r3 : w1.cell? ⟨w.heap.size, 3, none⟩ = some (.slice A s.vals.length c) := by go_simp
  have r4 : w1.cell? ⟨w.heap.size, 4, none⟩ = some (.int .i64 s.cons) := by go_simp
  have q0 : w1.cell? ⟨w.heap.size + 1, 0, none⟩ = some (.bool false) := by go_simp
  have q1 : w1.cell? ⟨w.heap.size + 1, 1, none⟩ = some (.int .i64 0) := by go_simp
  have f0 : w1.frozen? ⟨w.heap.size + 1, 0, none⟩ = false := by go_simp
  have f1 : w1.frozen? ⟨w.heap.size + 1, 1, none⟩ = false := by go_simp
  clear hc hf hg Q
  go_wp2_with fail
  refine (Q2 _ ?hr2).mono ?_
  case hr2 => exact (hr.gr gw).gr (by repeat (first | exact Gr.refl _ | refine Gr.alloc ?_ _ | refine Gr.drew ?_ | refine Gr.setCell ?_ (by first | (simp; done) | (simp; omega) | omega) _ | refine Gr.trans ?_ (by assumption)))
  rintro e w2 ⟨rfl, hg⟩
  obtain ⟨hc, hf⟩ := hg.cells
  have z4 := hg.size
  simp at z4
  have z5 : w.heap.size + 1 < w2.heap.size := by omega
  have gw2 : Gr w w2 := (by repeat (first | exact Gr.refl _ | refine Gr.alloc ?_ _ | refine Gr.drew ?_ | refine Gr.setCell ?_ (by first | (simp; done) | (simp; omega) | omega) _ | refine Gr.trans ?_ (by assumption)))
  have z6 : w.heap.size + 1 < w1.heap.size + 1 := by omega
  have p0 : w2.cell? ⟨w.heap.size + 1, 0, none⟩ = some (.bool false) := by go_simp
  have p1 : w2.cell? ⟨w.heap.size + 1, 1, none⟩ = some (.int .i64 0) := by go_simp
  have g0 : w2.frozen? ⟨w.heap.size + 1, 0, none⟩ = false := by go_simp
  have g1 : w2.frozen? ⟨w.heap.size + 1, 1, none⟩ = false := by go_simp
  clear hc hf hg q0 q1 f0 f1 r0 r1 r2 r3 r4
  go_wp2
  exact bodyPost_ret (v := .agg #[.bool (ofR r.by_ s.vals).ok, .int .i64 (ofR r.by_ s.vals).n]) (by simp [results, Tryz.results42, go_sem, *]) rfl ⟨rfl, (by repeat (first | exact Gr.refl _ | refine Gr.alloc ?_ _ | refine Gr.drew ?_ | refine Gr.setCell ?_ (by first | (simp; done) | (simp; omega) | omega) _ | refine Gr.trans ?_ (by assumption)))⟩
end Go.Proofs.YtbdichmkgcngbaaGreat
namespace Go.Proofs.YtbdichmkgcngbaaGreat
open Go.RowKit
set_option linter.unusedVariables false
set_option linter.unusedSimpArgs false

theorem scells_take (L : List Sq) (m : Nat) (h : m ≤ L.length) : scells (L.take m) = (scells L).take (m * 5) := by
  induction L generalizing m with
  | nil => simp [scells]
  | cons x L ih =>
    match m with
    | 0 => simp [scells]
    | m + 1 =>
      have hm : m ≤ L.length := by simpa using h
      rw [List.take_succ_cons, scells_cons, scells_cons, ih m hm, show (m + 1) * 5 = m * 5 + 5 by omega]
      rfl
theorem Rl.take {w : World} {A : Option Addr} {L : List Sq} (h : Rl w A L) {m : Nat} (hm : m ≤ L.length) : Rl w A (L.take m) := by
  refine ⟨scells_length _, fun h0 => ?_⟩
  have hl : (L.take m).length = m := by simp; omega
  obtain ⟨ad, e, hb, hc⟩ := h.2 (by omega)
  refine ⟨ad, e, hb, fun j u hu => hc j u ?_⟩
  rw [scells_take L m hm] at hu
  rw [List.getElem?_take] at hu
  split at hu
  · exact hu
  · cases hu
theorem firstN_le (k : Vl) (n : Nat) : firstN k n ≤ n := by unfold firstN; split <;> omega
/-- a slice of series is handed back. -/
def RetL (L : List Sq) (w : World) (e : Ending) (w' : World) : Prop := ∃ A c, e = .returned (.slice A L.length c) ∧ L.length ≤ c ∧ Rl w' A L ∧ Gr w w'
theorem firstN_no {k : Vl} (h : k.ok = false ∨ k.n < 0) (n : Nat) : firstN k n = 0 := by
  unfold firstN; rw [if_neg]; rintro ⟨h1, h2⟩
  rcases h with h | h
  · rw [h] at h1; cases h1
  · omega
theorem firstL_no {k : Vl} (h : k.ok = false ∨ k.n < 0) (L : List Sq) : firstL k L = [] := by unfold firstL; rw [firstN_no h]; rfl
theorem firstL_yes {k : Vl} (h1 : k.ok = true) (h2 : 0 ≤ k.n) (L : List Sq) (q : Nat) (hq : k.n / 1000000 = q) : firstL k L = L.take (min (L.length : Int) (q : Int)).toNat := by
  unfold firstL firstN; rw [if_pos ⟨h1, h2⟩]; congr 1; omega
theorem ret_slice {A : Option Addr} {n m c : Nat} (h : n = m) : Ending.returned (.slice A n c) = .returned (.slice A m c) := by rw [h]
theorem normV_kn {k : Vl} (h : knB k = true) : normV k = k := by
  unfold normV
  rw [(show isB k = true by unfold knB at h; rw [Bool.and_eq_true] at h; exact h.2)]
  rfl
theorem normV_no {k : Vl} (h : knB k = false) : (normV k).ok = false := by
  unfold normV
  cases hb : isB k
  · rfl
  · unfold knB at h
    rw [hb, Bool.and_true] at h
    exact h
theorem normV_isB (k : Vl) : isB (normV k) = true := by
  unfold normV
  cases hb : isB k
  · rfl
  · exact hb
set_option maxRecDepth 100000 in
set_option maxHeartbeats 1600000 in
theorem first_any (k : Vl) (A : Option Addr) (c : Nat) (L : List Sq) (w : World) (hk : isB k = true) (hl : L.length ≤ 1000000) (hcap : L.length ≤ c) (hr : Rl w A L) :
    Calls Tryz.prog 54 #[.agg #[.bool k.ok, .int .i64 k.n], .slice A L.length c] w (RetL (firstL k L) w) := by
  obtain ⟨ok, n⟩ := k
  have hl' : (L.length : Int) ≤ 1000000 := by omega
  cases ok
  case false =>
    rw [firstL_no (.inl rfl)]
    go_enter Tryz.func54, Tryz.ntmps54
    go_wp2
    go_ret
    exact ⟨none, 0, rfl, Nat.le_refl _, Rd.nil _ _ _, (by repeat (first | exact Gr.refl _ | refine Gr.alloc ?_ _ | refine Gr.drew ?_ | refine Gr.setCell ?_ (by first | (simp; done) | (simp; omega) | omega) _ | refine Gr.trans ?_ (by assumption)))⟩
  by_cases h0 : n < 0
  · rw [firstL_no (.inr h0)]
    go_enter Tryz.func54, Tryz.ntmps54
    go_wp2
    go_ret
    exact ⟨none, 0, rfl, Nat.le_refl _, Rd.nil _ _ _, (by repeat (first | exact Gr.refl _ | refine Gr.alloc ?_ _ | refine Gr.drew ?_ | refine Gr.setCell ?_ (by first | (simp; done) | (simp; omega) | omega) _ | refine Gr.trans ?_ (by assumption)))⟩
  have h0' : 0 ≤ n := by omega
  have hn1 : n ≤ 4611686018427387904 := ((isB_iff true n).1 hk).2
  obtain ⟨q, hq⟩ : ∃ q : Nat, n / 1000000 = q := ⟨(n / 1000000).toNat, by omega⟩
  rw [firstL_yes (k := ⟨true, n⟩) rfl h0' L q hq]
  have hm : min (L.length : Int) (q : Int) ≤ (c : Int) := by omega
  have hm0 : 0 ≤ min (L.length : Int) (q : Int) := by omega
  have hlen : (L.take (min (L.length : Int) (q : Int)).toNat).length = (min (L.length : Int) (q : Int)).toNat := by simp; omega
  have hr2 := hr.take (m := (min (L.length : Int) (q : Int)).toNat) (by omega)
  have HL := Lib.hid hlen
  clear hlen
  go_enter Tryz.func54, Tryz.ntmps54
  go_wp2
  go_ret
  exact ⟨_, _, ret_slice (by rw [HL.out]), by rw [HL.out]; omega, hr2.gr (by repeat (first | exact Gr.refl _ | refine Gr.alloc ?_ _ | refine Gr.drew ?_ | refine Gr.setCell ?_ (by first | (simp; done) | (simp; omega) | omega) _ | refine Gr.trans ?_ (by assumption))), (by repeat (first | exact Gr.refl _ | refine Gr.alloc ?_ _ | refine Gr.drew ?_ | refine Gr.setCell ?_ (by first | (simp; done) | (simp; omega) | omega) _ | refine Gr.trans ?_ (by assumption)))⟩
set_option maxRecDepth 100000 in
set_option maxHeartbeats 1600000 in
theorem rfirst_any (k : Vl) (A : Option Addr) (c : Nat) (L : List Sq) (w : World) (hl : L.length ≤ 1000000) (hcap : L.length ≤ c) (hr : Rl w A L) :
    Calls Tryz.prog 76 #[.agg #[.bool k.ok, .int .i64 k.n], .slice A L.length c] w (RetL (firstL (normV k) L) w) := by
  have Q := fun w => rkn_any k w
  obtain ⟨ok, n⟩ := k
  have hl' : (L.length : Int) ≤ 1000000 := by omega
  cases hkn : knB ⟨ok, n⟩
  case false =>
    rw [firstL_no (.inl (normV_no hkn))]
    simp only [hkn] at Q
    clear hkn
    go_enter Tryz.func76, Tryz.ntmps76
    go_wp2_with fail
    refine (Q _).mono ?_; rintro e w1 ⟨rfl, hg⟩
    obtain ⟨hc, hf⟩ := hg.cells
    have z1 := hg.size
    simp at z1
    have z0 : w.heap.size < w1.heap.size := by omega
    have gw : Gr w w1 := (by repeat (first | exact Gr.refl _ | refine Gr.alloc ?_ _ | refine Gr.drew ?_ | refine Gr.setCell ?_ (by first | (simp; done) | (simp; omega) | omega) _ | refine Gr.trans ?_ (by assumption)))
    have p1 : w1.cell? ⟨w.heap.size, 1, none⟩ = some (.int .i64 n) := (hg.cell (p := ⟨w.heap.size, 1, none⟩) (by simp)).trans (by go_simp)
    clear hc hf hg
    go_wp2
    go_ret
    exact ⟨none, 0, rfl, Nat.le_refl _, Rd.nil _ _ _, (by repeat (first | exact Gr.refl _ | refine Gr.alloc ?_ _ | refine Gr.drew ?_ | refine Gr.setCell ?_ (by first | (simp; done) | (simp; omega) | omega) _ | refine Gr.trans ?_ (by assumption)))⟩
  rw [normV_kn hkn]
  have hok : ok = true := knB_ok hkn
  subst hok
  have hn1 : n ≤ 4611686018427387904 := knB_hi hkn
  simp only [hkn] at Q
  clear hkn
  by_cases h0 : n < 0
  · rw [firstL_no (.inr h0)]
    go_enter Tryz.func76, Tryz.ntmps76
    go_wp2_with fail
    refine (Q _).mono ?_; rintro e w1 ⟨rfl, hg⟩
    obtain ⟨hc, hf⟩ := hg.cells
    have z1 := hg.size
    simp at z1
    have z0 : w.heap.size < w1.heap.size := by omega
    have gw : Gr w w1 := (by repeat (first | exact Gr.refl _ | refine Gr.alloc ?_ _ | refine Gr.drew ?_ | refine Gr.setCell ?_ (by first | (simp; done) | (simp; omega) | omega) _ | refine Gr.trans ?_ (by assumption)))
    have p1 : w1.cell? ⟨w.heap.size, 1, none⟩ = some (.int .i64 n) := (hg.cell (p := ⟨w.heap.size, 1, none⟩) (by simp)).trans (by go_simp)
    clear hc hf hg
    go_wp2
    go_ret
    exact ⟨none, 0, rfl, Nat.le_refl _, Rd.nil _ _ _, (by repeat (first | exact Gr.refl _ | refine Gr.alloc ?_ _ | refine Gr.drew ?_ | refine Gr.setCell ?_ (by first | (simp; done) | (simp; omega) | omega) _ | refine Gr.trans ?_ (by assumption)))⟩
  have h0' : 0 ≤ n := by omega
  obtain ⟨q, hq⟩ : ∃ q : Nat, n / 1000000 = q := ⟨(n / 1000000).toNat, by omega⟩
  rw [firstL_yes (k := ⟨true, n⟩) rfl h0' L q hq]
  have hm : min (L.length : Int) (q : Int) ≤ (c : Int) := by omega
  have hm0 : 0 ≤ min (L.length : Int) (q : Int) := by omega
  have hlen : (L.take (min (L.length : Int) (q : Int)).toNat).length = (min (L.length : Int) (q : Int)).toNat := by simp; omega
  have hr2 := hr.take (m := (min (L.length : Int) (q : Int)).toNat) (by omega)
  have HL := Lib.hid hlen
  clear hlen
  go_enter Tryz.func76, Tryz.ntmps76
  go_wp2_with fail
  refine (Q _).mono ?_; rintro e w1 ⟨rfl, hg⟩
  obtain ⟨hc, hf⟩ := hg.cells
  have z1 := hg.size
  simp at z1
  have z0 : w.heap.size < w1.heap.size := by omega
  have gw : Gr w w1 := (by repeat (first | exact Gr.refl _ | refine Gr.alloc ?_ _ | refine Gr.drew ?_ | refine Gr.setCell ?_ (by first | (simp; done) | (simp; omega) | omega) _ | refine Gr.trans ?_ (by assumption)))
  have p1 : w1.cell? ⟨w.heap.size, 1, none⟩ = some (.int .i64 n) := (hg.cell (p := ⟨w.heap.size, 1, none⟩) (by simp)).trans (by go_simp)
  clear hc hf hg
  go_wp2
  go_ret
  exact ⟨_, _, ret_slice (by rw [HL.out]), by rw [HL.out]; omega, hr2.gr (by repeat (first | exact Gr.refl _ | refine Gr.alloc ?_ _ | refine Gr.drew ?_ | refine Gr.setCell ?_ (by first | (simp; done) | (simp; omega) | omega) _ | refine Gr.trans ?_ (by assumption))), (by repeat (first | exact Gr.refl _ | refine Gr.alloc ?_ _ | refine Gr.drew ?_ | refine Gr.setCell ?_ (by first | (simp; done) | (simp; omega) | omega) _ | refine Gr.trans ?_ (by assumption)))⟩
end Go.Proofs.YtbdichmkgcngbaaGreat
namespace Go.Proofs.YtbdichmkgcngbaaGreat
set_option linter.unusedVariables false
set_option linter.unusedSimpArgs false
open Go.RowKit

/-- the least number that is a multiple of both; 0: it is too great. -/
def comN (a b : Nat) : Nat := if 16777216 / b < a / Nat.gcd a b then 0 else a / Nat.gcd a b * b
def comS (st : Nat) (s : Sr) : Nat := if st = 0 then 0 else comN st s.step.toNat
def stepS (L : List Sr) : Nat := L.foldl comS 1
def minS (L : List Sr) (t : Int) : Int := L.foldl (fun t s => min t s.start) t
def lastS (L : List Sr) : Int := L.foldl (fun t s => max t (endS s)) 0
def startJ (L : List Sr) : Int := minS L 4294967295 - minS L 4294967295 % (stepS L : Int)
def countJ (L : List Sr) : Int := upI (lastS L - startJ L) (stepS L : Int)
def errJ (L : List Sr) : Int := if L.all isS = true then (if L = [] then 0 else if stepS L = 0 then 13 else if 131072 < countJ L then 13 else 0) else 1
def joinS (L : List Sr) : List Sr := if errJ L = 0 then L.map fun s => fitS s (startJ L) (stepS L : Int) (countJ L) else []

theorem comN_le {a b : Nat} (hb : 0 < b) : comN a b ≤ 16777216 := by
  unfold comN
  split
  · omega
  · rename_i h
    exact (Nat.le_div_iff_mul_le hb).1 (by omega)
theorem comN_pos {a b : Nat} (_ha : 0 < a) (hb : 0 < b) (h : comN a b ≠ 0) : comN a b = a / Nat.gcd a b * b ∧ 0 < comN a b ∧ a ∣ comN a b ∧ b ∣ comN a b := by
  unfold comN at h ⊢
  split at h
  · exact absurd rfl h
  · rename_i h1
    rw [if_neg h1]
    refine ⟨rfl, Nat.pos_of_ne_zero h, ?_, Nat.dvd_mul_left _ _⟩
    obtain ⟨x, hx⟩ := Nat.gcd_dvd_right a b
    refine ⟨b / Nat.gcd a b, ?_⟩
    have hg : 0 < Nat.gcd a b := Nat.gcd_pos_of_pos_right _ hb
    rw [Nat.div_mul_comm_of_dvd' a b]
where
  Nat.div_mul_comm_of_dvd' (a b : Nat) : a / Nat.gcd a b * b = a * (b / Nat.gcd a b) := by
    rcases Nat.eq_zero_or_pos (Nat.gcd a b) with h0 | hg
    · rw [h0]; simp [Nat.div_zero]
    · obtain ⟨x, hx⟩ := Nat.gcd_dvd_left a b
      obtain ⟨y, hy⟩ := Nat.gcd_dvd_right a b
      generalize Nat.gcd a b = g at *
      subst hx hy
      rw [Nat.mul_div_cancel_left _ hg, Nat.mul_div_cancel_left _ hg, Nat.mul_comm g x, Nat.mul_assoc]
theorem comS_zero (L : List Sr) : L.foldl comS 0 = 0 := by
  induction L with
  | nil => rfl
  | cons s L ih => exact ih
theorem fold_step (L : List Sr) (hp : ∀ s ∈ L, 1 ≤ s.step) : ∀ st, 0 < st → st ≤ 16777216 → L.foldl comS st ≠ 0 →
    st ∣ L.foldl comS st ∧ (∀ s ∈ L, s.step.toNat ∣ L.foldl comS st) ∧ L.foldl comS st ≤ 16777216 := by
  induction L with
  | nil => intro st h0 h1 _; exact ⟨Nat.dvd_refl _, fun s hs => absurd hs (by simp), h1⟩
  | cons s L ih =>
    intro st h0 h1 h
    have hs := hp s (List.mem_cons_self ..)
    have hsp : 0 < s.step.toNat := by omega
    have e : (s :: L).foldl comS st = L.foldl comS (comN st s.step.toNat) := by
      show L.foldl comS (comS st s) = _
      unfold comS; rw [if_neg (by omega)]
    rw [e] at h ⊢
    have hz : comN st s.step.toNat ≠ 0 := fun hz => h (by rw [hz]; exact comS_zero L)
    obtain ⟨_, c0, c1, c2⟩ := comN_pos h0 hsp hz
    obtain ⟨d0, d1, d2⟩ := ih (fun u hu => hp u (List.mem_cons_of_mem _ hu)) _ c0 (comN_le hsp) h
    refine ⟨Nat.dvd_trans c1 d0, fun u hu => ?_, d2⟩
    rcases List.mem_cons.1 hu with rfl | hu
    · exact Nat.dvd_trans c2 d0
    · exact d1 u hu
theorem minS_le (L : List Sr) : ∀ t, minS L t ≤ t ∧ ∀ s ∈ L, minS L t ≤ s.start := by
  induction L with
  | nil => intro t; exact ⟨Int.le_refl _, fun s hs => absurd hs (by simp)⟩
  | cons s L ih =>
    intro t
    obtain ⟨h0, h1⟩ := ih (min t s.start)
    show minS L (min t s.start) ≤ t ∧ _
    refine ⟨by omega, fun u hu => ?_⟩
    show minS L (min t s.start) ≤ u.start
    rcases List.mem_cons.1 hu with rfl | hu
    · omega
    · exact h1 u hu
theorem minS_ge (L : List Sr) (hp : ∀ s ∈ L, 0 ≤ s.start) : ∀ t, 0 ≤ t → 0 ≤ minS L t := by
  induction L with
  | nil => intro t h; exact h
  | cons s L ih =>
    intro t h
    have := hp s (List.mem_cons_self ..)
    exact ih (fun u hu => hp u (List.mem_cons_of_mem _ hu)) (min t s.start) (by omega)
theorem last_ge (L : List Sr) : ∀ t : Int, t ≤ L.foldl (fun t s => max t (endS s)) t ∧ ∀ s ∈ L, endS s ≤ L.foldl (fun t s => max t (endS s)) t := by
  induction L with
  | nil => intro t; exact ⟨Int.le_refl _, fun s hs => absurd hs (by simp)⟩
  | cons s L ih =>
    intro t
    obtain ⟨h0, h1⟩ := ih (max t (endS s))
    refine ⟨?_, fun u hu => ?_⟩
    · show t ≤ L.foldl (fun t s => max t (endS s)) (max t (endS s)); omega
    · show endS u ≤ L.foldl (fun t s => max t (endS s)) (max t (endS s))
      rcases List.mem_cons.1 hu with rfl | hu
      · omega
      · exact h1 u hu
theorem upI_facts {n k : Int} (hn : 0 ≤ n) (hk : 1 ≤ k) : 0 ≤ upI n k ∧ n ≤ upI n k * k ∧ upI n k * k < n + k := by
  unfold upI
  have h := Int.mul_ediv_add_emod (n + k - 1) k
  have h0 := Int.emod_nonneg (n + k - 1) (b := k) (by omega)
  have h1 := Int.emod_lt_of_pos (n + k - 1) (b := k) (by omega)
  rw [Int.mul_comm] at h
  refine ⟨Int.ediv_nonneg (by omega) (by omega), by omega, by omega⟩

/-- what the law SeriesCommon says of joined series. -/
theorem joined {L : List Sr} (he : errJ L = 0) (hne : L ≠ []) :
    1 ≤ (stepS L : Int) ∧ (stepS L : Int) ≤ 16777216 ∧ 0 ≤ startJ L ∧ startJ L ≤ 4294967295 ∧ 0 ≤ countJ L ∧ countJ L ≤ 131072 ∧
    ∀ s ∈ L, Ok s ∧ fitS s (startJ L) (stepS L : Int) (countJ L) = ⟨s.name, startJ L, (stepS L : Int), fitL s (startJ L) (stepS L : Int) (countJ L).toNat, s.cons⟩ ∧
      (stepS L : Int) % s.step = 0 ∧ startJ L ≤ s.start ∧ endS s ≤ endS (fitS s (startJ L) (stepS L : Int) (countJ L)) := by
  unfold errJ at he
  split at he
  · rename_i hall
    first
    | rw [if_neg hne] at he
    | skip
    split at he
    · cases he
    · rename_i hst
      split at he
      · cases he
      · rename_i hc
        have hok : ∀ s ∈ L, Ok s := fun s hs => (isS_iff s).1 (List.all_eq_true.1 hall s hs)
        obtain ⟨_, hd, hle⟩ := fold_step L (fun s hs => (hok s hs).p0) 1 (by decide) (by decide) hst
        have hst1 : 1 ≤ (stepS L : Int) := by have : stepS L ≠ 0 := hst; omega
        have hst2 : (stepS L : Int) ≤ 16777216 := by have : stepS L ≤ 16777216 := hle; omega
        obtain ⟨m0, m1⟩ := minS_le L 4294967295
        have m2 := minS_ge L (fun s hs => (hok s hs).s0) 4294967295 (by decide)
        have r0 := Int.emod_nonneg (minS L 4294967295) (b := (stepS L : Int)) (by omega)
        have r1 : minS L 4294967295 % (stepS L : Int) ≤ minS L 4294967295 := by
          have h := Int.mul_ediv_add_emod (minS L 4294967295) (stepS L : Int)
          have := Int.mul_nonneg (a := (stepS L : Int)) (b := minS L 4294967295 / (stepS L : Int)) (by omega) (Int.ediv_nonneg m2 (by omega))
          omega
        have s0 : 0 ≤ startJ L := by unfold startJ; omega
        have s1 : startJ L ≤ 4294967295 := by unfold startJ; omega
        have sm : startJ L ≤ minS L 4294967295 := by unfold startJ; omega
        have hend : ∀ s ∈ L, s.start ≤ endS s := fun s hs => by
          unfold endS; rw [if_pos ((isS_iff s).2 (hok s hs))]
          have := Int.mul_nonneg (a := (s.vals.length : Int)) (b := s.step) (by omega) (by have := (hok s hs).p0; omega)
          omega
        obtain ⟨_, l1⟩ := last_ge L 0
        have hl : 0 ≤ lastS L - startJ L := by
          obtain ⟨u, hu⟩ := List.exists_mem_of_ne_nil L hne
          have h1 := m1 u hu; have h2 := hend u hu; have h3 : endS u ≤ lastS L := l1 u hu
          omega
        obtain ⟨u0, u1, u2⟩ := upI_facts hl hst1
        have c0 : 0 ≤ countJ L := u0
        have c1 : countJ L ≤ 131072 := by omega
        refine ⟨hst1, hst2, s0, s1, c0, c1, fun s hs => ?_⟩
        have ho := hok s hs
        have hf : fitOk s (startJ L) (stepS L : Int) (countJ L) = true := by
          unfold fitOk
          rw [(isS_iff s).2 ho]
          simp only [Bool.true_and, Bool.and_eq_true, decide_eq_true_eq]
          exact ⟨hst1, by omega, c0, c1, s0, s1⟩
        have hfit : fitS s (startJ L) (stepS L : Int) (countJ L) = ⟨s.name, startJ L, (stepS L : Int), fitL s (startJ L) (stepS L : Int) (countJ L).toNat, s.cons⟩ := by
          unfold fitS; rw [if_pos hf]
        refine ⟨ho, hfit, ?_, by have := m1 s hs; omega, ?_⟩
        · obtain ⟨q, hq⟩ := hd s hs
          have hp := ho.p0
          have e : (stepS L : Int) = s.step * (q : Int) := by
            have : stepS L = s.step.toNat * q := hq
            rw [this, Int.natCast_mul, Int.toNat_of_nonneg (by omega)]
          rw [e]; exact Int.mul_emod_right _ _
        · rw [hfit]
          have hi : isS ⟨s.name, startJ L, (stepS L : Int), fitL s (startJ L) (stepS L : Int) (countJ L).toNat, s.cons⟩ = true := by
            refine (isS_iff _).2 ⟨ho.name, s0, s1, hst1, by show (stepS L : Int) ≤ _; omega, ?_, ho.c0, ho.c1, ?_⟩
            · show ((fitL s (startJ L) (stepS L : Int) (countJ L).toNat).length : Int) ≤ 131072
              rw [fitL_len]; omega
            · refine List.all_eq_true.2 fun v hv => ?_
              obtain ⟨i, _, rfl⟩ := List.mem_map.1 hv
              exact aggV_isB _ _
          have hE : endS ⟨s.name, startJ L, (stepS L : Int), fitL s (startJ L) (stepS L : Int) (countJ L).toNat, s.cons⟩ = startJ L + countJ L * (stepS L : Int) := by
            unfold endS; rw [if_pos hi]
            show startJ L + ((fitL s (startJ L) (stepS L : Int) (countJ L).toNat).length : Int) * (stepS L : Int) = _
            rw [fitL_len, Int.toNat_of_nonneg c0]
          rw [hE]
          have h3 : endS s ≤ lastS L := l1 s hs
          have : countJ L * (stepS L : Int) = upI (lastS L - startJ L) (stepS L : Int) * (stepS L : Int) := rfl
          omega
  · cases he
/-- what the law SeriesBuckets says of what is shrunk. -/
theorem shrunk {s : Sr} (h : Ok s) {most : Int} (h1 : 1 ≤ most) (hm : most < (s.vals.length : Int)) (hs : s.step ≤ 16777216) (hl : s.vals.length ≤ 120) :
    ∃ k m : Nat, 2 ≤ k ∧ k ≤ 120 ∧ shrinkS s most = ⟨s.name, s.start, k * s.step, fitL s s.start (k * s.step) m, s.cons⟩ ∧ (m : Int) ≤ most ∧ s.vals.length ≤ m * k ∧ m * k < s.vals.length + k ∧
      upI s.vals.length most = k ∧ upI s.vals.length k = m := by
  have hn : (0 : Int) ≤ (s.vals.length : Int) := by omega
  obtain ⟨u0, u1, u2⟩ := upI_facts hn h1
  generalize hk : upI (s.vals.length : Int) most = k' at u0 u1 u2
  obtain ⟨k, rfl⟩ : ∃ k : Nat, k' = (k : Int) := ⟨k'.toNat, by omega⟩
  have k2 : 2 ≤ k := by
    rcases Nat.lt_or_ge k 2 with hlt | hge
    · exfalso
      have : (k : Int) * most ≤ 1 * most := Int.mul_le_mul_of_nonneg_right (by omega) (by omega)
      omega
    · exact hge
  have k3 : k ≤ 120 := by
    rcases Nat.lt_or_ge 120 k with hlt | hge
    · exfalso
      have h4 : ((k : Int) - 1) * most = k * most - most := by rw [Int.sub_mul]; omega
      have : ((k : Int) - 1) * 1 ≤ ((k : Int) - 1) * most := Int.mul_le_mul_of_nonneg_left h1 (by omega)
      omega
    · exact hge
  have hk1 : (1 : Int) ≤ (k : Int) := by omega
  obtain ⟨v0, v1, v2⟩ := upI_facts hn hk1
  generalize hmm : upI (s.vals.length : Int) (k : Int) = m' at v0 v1 v2
  obtain ⟨m, rfl⟩ : ∃ m : Nat, m' = (m : Int) := ⟨m'.toNat, by omega⟩
  have hmost : (m : Int) ≤ most := by
    rcases (show most < (m : Int) ∨ (m : Int) ≤ most by omega) with hlt | hge
    · exfalso
      have h4 : ((m : Int) - 1) * k = m * k - k := by rw [Int.sub_mul]; omega
      have h5 : most * k ≤ ((m : Int) - 1) * k := Int.mul_le_mul_of_nonneg_right (by omega) (by omega)
      have h6 : most * k = k * most := Int.mul_comm _ _
      omega
    · exact hge
  have hp := h.p0
  have hks : (k : Int) * s.step ≤ 120 * 16777216 := Int.mul_le_mul (by omega) hs (by omega) (by omega)
  have hks1 : (1 : Int) ≤ (k : Int) * s.step := by
    have : (1 : Int) * 1 ≤ (k : Int) * s.step := Int.mul_le_mul hk1 hp (by omega) (by omega)
    omega
  refine ⟨k, m, k2, k3, ?_, hmost, by have := Int.natCast_mul m k; omega, by have := Int.natCast_mul m k; omega, rfl, hmm⟩
  have hq : ¬ 1099511627776 / (k : Int) < s.step := by
    have h7 : (16777216 : Int) ≤ 1099511627776 / (k : Int) := (Int.le_ediv_iff_mul_le (by omega)).2 (by omega)
    omega
  unfold shrinkS
  have hso : shrinkOk s most = true := by
    unfold shrinkOk; rw [(isS_iff s).2 h]; simp only [Bool.true_and, Bool.and_eq_true, decide_eq_true_eq]; exact ⟨h1, hm⟩
  rw [if_pos hso, hk, if_neg hq, hmm]
  have hml : m ≤ 131072 := by
    have h8 : (m : Int) < s.vals.length := by omega
    have := h.len
    omega
  unfold fitS
  rw [if_pos, Int.toNat_natCast]
  unfold fitOk
  rw [(isS_iff s).2 h]
  simp only [Bool.true_and, Bool.and_eq_true, decide_eq_true_eq]
  exact ⟨hks1, by omega, by omega, by omega, h.s0, h.s1⟩
end Go.Proofs.YtbdichmkgcngbaaGreat
namespace Go.Proofs.YtbdichmkgcngbaaGreat
set_option linter.unusedVariables false
set_option linter.unusedSimpArgs false
open Go.RowKit

/-- all the values of the series lie. -/
def Lie (w : World) (L : List Sq) : Prop := ∀ x ∈ L, Rv w x.A x.s.vals
theorem Lie.gr {w w' : World} {L : List Sq} (h : Lie w L) (g : Gr w w') : Lie w' L := fun x hx => (h x hx).gr g
def okL (L : List Sq) : Bool := L.all fun x => isS x.s
theorem okL_take {L : List Sq} {k : Nat} (h : k < L.length) : okL (L.take (k + 1)) = (okL (L.take k) && isS L[k].s) := by
  unfold okL; rw [List.take_succ_eq_append_getElem h, List.all_append]; simp
theorem okL_no {L : List Sq} {k : Nat} (h : k < L.length) (hb : isS L[k].s = false) : okL L = false := by
  cases hq : okL L
  · rfl
  · unfold okL at hq; rw [List.all_eq_true.1 hq _ (List.getElem_mem h)] at hb; cases hb

end Go.Proofs.YtbdichmkgcngbaaGreat
namespace Go.Proofs.YtbdichmkgcngbaaGreat
set_option linter.unusedVariables false
set_option linter.unusedSimpArgs false
open Go.RowKit

/-- a series is handed back, in whatever memory. -/
def RetS (s : Sr) (w : World) (e : Ending) (w' : World) : Prop := ∃ A c, e = .returned (.agg #[.string s.name, .int .i64 s.start, .int .i64 s.step, .slice A s.vals.length c, .int .i64 s.cons]) ∧ Rv w' A s.vals ∧ Gr w w' ∧ ∀ ad, A = some ad → w.heap.size ≤ ad.block
/-- a slice of values is handed back, in memory of its own. -/
def RetN (l : List Vl) (w : World) (e : Ending) (w' : World) : Prop := ∃ A c, e = .returned (.slice A l.length c) ∧ Rv w' A l ∧ Gr w w' ∧ ∀ ad, A = some ad → w.heap.size ≤ ad.block
theorem own_new {w : World} {base : Nat} {e : TypeId} {size n c : Nat} {A : Option Addr} {xs : List Value} (h : w.ownsRow base e size (.slice A n c) n xs) : ∀ ad, A = some ad → base ≤ ad.block := by
  intro ad had
  subst had
  obtain ⟨_, ⟨hv, _⟩ | ⟨g, cap, cur, hv, hb, _⟩⟩ := h
  · injection hv with h1; cases h1
  · injection hv with h1
    injection h1 with h1
    rw [h1]; exact hb
theorem Rv.set {w : World} {A : Option Addr} {l : List Vl} (h : Rv w A l) (p : Addr) (u : Value) (hne : ∀ ad, A = some ad → p.block < ad.block) : Rv (w.setCell p u) A l :=
  ⟨h.1, fun hn => by
    obtain ⟨ad, e, hb, hc⟩ := h.2 hn
    refine ⟨ad, e, by simpa using hb, fun j u' hu => ?_⟩
    rw [World.cell?_setCell_far _ _ _ _ (by rw [add_blk]; exact Nat.ne_of_lt (hne ad e))]
    exact hc j u' hu⟩
theorem own_empty (w : World) (base : Nat) (hb : base ≤ w.heap.size) (e : TypeId) (size : Nat) : (w.alloc (.cells #[] e)).ownsRow base e size (.slice (some ⟨w.heap.size, 0, none⟩) 0 0) 0 [] :=
  ⟨by simp, .inr ⟨w.heap.size, 0, #[], rfl, hb, heap_alloc_new w _, Nat.le_refl _, by unfold maxLen; omega, by simp, by simp⟩⟩

set_option maxRecDepth 100000 in
set_option maxHeartbeats 1600000 in
theorem clone_any (A : Option Addr) (c : Nat) (l : List Vl) (w : World) (hl : l.length ≤ 1000000) (hr : Rv w A l) :
    Calls Tryz.prog 66 #[.slice A l.length c] w (RetN l w) := by
  cases A with
  | none =>
    have h0 : l = [] := by
      rcases Nat.eq_zero_or_pos l.length with h | h
      · exact List.eq_nil_of_length_eq_zero h
      · obtain ⟨ad, e, _⟩ := hr.2 h; cases e
    subst h0
    have q22 : ∀ (w : World) (a : Option Addr) (n c n' c' : Nat), (binOp .eql 28 (.slice a n c) (.slice none n' c')).run Tryz.prog w = .ok (.bool a.isNone) w := fun w a n c n' c' => Lib.run_eql_slice_nil w _ _ a n c n' c' Tryz.underlying28
    go_enter Tryz.func66, Tryz.ntmps66
    go_wp2
    go_ret
    exact ⟨none, 0, rfl, Rv.nil _ _, (by repeat (first | exact Gr.refl _ | refine Gr.alloc ?_ _ | refine Gr.drew ?_ | refine Gr.setCell ?_ (by first | (simp; done) | (simp; omega) | omega) _ | refine Gr.trans ?_ (by assumption))), fun ad h => by cases h⟩
  | some ad =>
    obtain ⟨i0, hi, hz0, hz1, hz2⟩ := info_parts info_val
    have hown0 := own_empty w w.heap.size (Nat.le_refl _) 23 2
    have hr0 := hr.gr (Gr.alloc (Gr.refl w) (.cells #[] 23))
    have q22 : ∀ (w : World) (a : Option Addr) (n c n' c' : Nat), (binOp .eql 28 (.slice a n c) (.slice none n' c')).run Tryz.prog w = .ok (.bool a.isNone) w := fun w a n c n' c' => Lib.run_eql_slice_nil w _ _ a n c n' c' Tryz.underlying28
    go_enter Tryz.func66, Tryz.ntmps66
    go_wp2_with (at_builtin; refine wpList_append_rd rfl (.tmp 5) (.tmp 6) 28 rfl w.heap.size 23 i0 _ 2 16 Tryz.underlying28 hi hz0 hz1 hz2 rfl (by decide) _ _ _ rfl hown0 (some ad) l.length c (vcells l) rfl hr0 (vcells_one _) (by unfold maxLen; omega) (by omega) (by simp) ?_; intro v' w2 hown2 hgr2 hat2)
    have hg2 : Gr w w2 := Gr.grown (Gr.alloc (Gr.refl w) _) hgr2 (fun k hk => by have h : some w.heap.size = some k := hk; injection h with h; omega)
    rw [Nat.zero_add, List.nil_append] at hown2
    obtain ⟨A', c', hv⟩ := own_form hown2
    subst hv
    clear hgr2 hat2 hown0 hr0
    go_wp2
    go_ret
    exact ⟨A', c', rfl, Rd.own hown2, hg2, own_new hown2⟩

end Go.Proofs.YtbdichmkgcngbaaGreat
namespace Go.Proofs.YtbdichmkgcngbaaGreat
set_option linter.unusedVariables false
set_option linter.unusedSimpArgs false
open Go.RowKit

theorem fold_next {S : List Sr} {k : Nat} (h : k < S.length) {β : Type} (f : β → Sr → β) (a : β) : (S.take (k + 1)).foldl f a = f ((S.take k).foldl f a) S[k] := by
  rw [List.take_succ_eq_append_getElem h, List.foldl_append]; rfl
theorem step_next {S : List Sr} {k : Nat} (h : k < S.length) : stepS (S.take (k + 1)) = comS (stepS (S.take k)) S[k] := fold_next h comS 1
theorem min_next {S : List Sr} {k : Nat} (h : k < S.length) (a : Int) : minS (S.take (k + 1)) a = min (minS (S.take k) a) S[k].start := fold_next h _ a
theorem last_next {S : List Sr} {k : Nat} (h : k < S.length) : lastS (S.take (k + 1)) = max (lastS (S.take k)) (endS S[k]) := fold_next h _ 0
theorem min_first {x : Sr} {r : List Sr} (h : x.start ≤ 4294967295) : minS (x :: r) x.start = minS (x :: r) 4294967295 := by
  show minS r (min x.start x.start) = minS r (min 4294967295 x.start)
  congr 1
  omega
theorem end_in {s : Sr} (h : Ok s) : 0 ≤ endS s ∧ endS s ≤ 144115192370823168 := by
  have b0 := h.s0; have b1 := h.s1; have b2 := h.p0; have b3 := h.p1; have b4 := h.len
  have m0 : 0 ≤ (s.vals.length : Int) * s.step := Int.mul_nonneg (by omega) (by omega)
  have m1 : (s.vals.length : Int) * s.step ≤ 131072 * 1099511627776 := Int.mul_le_mul b4 b3 (by omega) (by omega)
  unfold endS
  rw [if_pos ((isS_iff s).2 h)]
  omega
theorem okL_all (L : List Sq) : okL L = (L.map Sq.s).all isS := by unfold okL; rw [List.all_map]; rfl
theorem com_le {st : Nat} {s : Sr} (h : st ≤ 16777216) (hp : 1 ≤ s.step) : comS st s ≤ 16777216 := by
  unfold comS; split
  · omega
  · exact comN_le (by omega)
/-- what is known of series that may be joined. -/
theorem join_pre {S : List Sr} (hall : S.all isS = true) (hne : S ≠ []) (hst : stepS S ≠ 0) :
    1 ≤ (stepS S : Int) ∧ (stepS S : Int) ≤ 16777216 ∧ 0 ≤ startJ S ∧ startJ S ≤ 4294967295 ∧ 0 ≤ lastS S - startJ S ∧ lastS S ≤ 144115192370823168 := by
  have hok : ∀ s ∈ S, Ok s := fun s hs => (isS_iff s).1 (List.all_eq_true.1 hall s hs)
  obtain ⟨_, hd, hle⟩ := fold_step S (fun s hs => (hok s hs).p0) 1 (by decide) (by decide) hst
  have hst1 : 1 ≤ (stepS S : Int) := by omega
  have hst2 : (stepS S : Int) ≤ 16777216 := by have : stepS S ≤ 16777216 := hle; omega
  obtain ⟨m0, m1⟩ := minS_le S 4294967295
  have m2 := minS_ge S (fun s hs => (hok s hs).s0) 4294967295 (by decide)
  have r0 := Int.emod_nonneg (minS S 4294967295) (b := (stepS S : Int)) (by omega)
  have r1 : minS S 4294967295 % (stepS S : Int) ≤ minS S 4294967295 := by
    have h := Int.mul_ediv_add_emod (minS S 4294967295) (stepS S : Int)
    have := Int.mul_nonneg (a := (stepS S : Int)) (b := minS S 4294967295 / (stepS S : Int)) (by omega) (Int.ediv_nonneg m2 (by omega))
    omega
  obtain ⟨_, l1⟩ := last_ge S 0
  have hup : ∀ (T : List Sr), (∀ s ∈ T, Ok s) → ∀ t : Int, t ≤ 144115192370823168 → T.foldl (fun t s => max t (endS s)) t ≤ 144115192370823168 := by
    intro T
    induction T with
    | nil => intro _ t h; exact h
    | cons s r ih =>
      intro hT t h
      have := (end_in (hT s (List.mem_cons_self ..))).2
      exact ih (fun u hu => hT u (List.mem_cons_of_mem _ hu)) (max t (endS s)) (by omega)
  refine ⟨hst1, hst2, by unfold startJ; omega, by unfold startJ; omega, ?_, hup S hok 0 (by decide)⟩
  obtain ⟨u, hu⟩ := List.exists_mem_of_ne_nil S hne
  have h1 := m1 u hu; have h2 := hok u hu; have h3 : endS u ≤ lastS S := l1 u hu
  have h4 : u.start ≤ endS u := by
    unfold endS; rw [if_pos ((isS_iff u).2 h2)]
    have := Int.mul_nonneg (a := (u.vals.length : Int)) (b := u.step) (by omega) (by have := h2.p0; omega)
    omega
  unfold startJ
  omega

/-- series and an error's number are handed back. -/
def RetJ (S : List Sr) (w : World) (e : Ending) (w' : World) : Prop :=
  ∃ (A : Option Addr) (M : List Sq) (c : Nat), e = .returned (.tuple #[.slice A M.length c, .int .i64 (errJ S)]) ∧ M.map Sq.s = joinS S ∧ Rl w' A M ∧ Lie w' M ∧ Gr w w'
theorem RetJ.err {S : List Sr} {w w' : World} {n : Int} (h : errJ S = n) (hn : joinS S = []) (g : Gr w w') : RetJ S w (.returned (.tuple #[.slice none 0 0, .int .i64 n])) w' :=
  ⟨none, [], 0, by rw [h]; rfl, by rw [hn]; rfl, Rd.nil _ _ _, fun x hx => absurd hx (by simp), g⟩
theorem join_no {S : List Sr} (h : errJ S ≠ 0) : joinS S = [] := by unfold joinS; rw [if_neg h]

theorem info_ser : (Tryz.prog.info? 30).map (fun i => (i.zero, i.size, i.bytes)) = some (some (.agg #[.string ⟨#[]⟩, .int .i64 0, .int .i64 0, .slice none 0 0, .int .i64 0]), 5, 64) := by kernel_rfl
theorem scells_one (L : List Sq) : ∀ u ∈ scells L, u.oneCell' = true := by
  intro u hu
  simp only [scells, List.mem_flatMap] at hu
  obtain ⟨v, _, hv⟩ := hu
  simp at hv
  rcases hv with rfl | rfl | rfl | rfl | rfl <;> rfl
theorem Rv.grown {w w' : World} {A : Option Addr} {l : List Vl} {row : Option Nat} (h : Rv w A l) (hg : w.grownBy w' row) (hne : 0 < l.length → ∀ ad, A = some ad → some ad.block ≠ row) : Rv w' A l :=
  ⟨h.1, fun hn => by
    obtain ⟨ad, e, hb, hc⟩ := h.2 hn
    exact ⟨ad, e, Nat.lt_of_lt_of_le hb hg.size, fun j u hu => hg.cell (hc j u hu) (by rw [add_blk]; exact hne hn ad e)⟩⟩
theorem Rv.blk {w : World} {A : Option Addr} {l : List Vl} (h : Rv w A l) (hn : 0 < l.length) {ad : Addr} (hA : A = some ad) : ad.block < w.heap.size := by
  obtain ⟨ad', e, hb, _⟩ := h.2 hn
  rw [hA] at e; injection e with e; subst e; exact hb
theorem new_apart {w : World} {base : Nat} {e : TypeId} {size n : Nat} {v : Value} {xs : List Value} (h : w.ownsRow base e size v n xs) {ad : Addr} (hb : w.heap.size ≤ ad.block) : some ad.block ≠ v.ownBlock := by
  intro h1
  have := (h.lt _ h1.symm).2
  omega
/-- none of the arrays of these series is the array of the row. -/
def Apart (row : Option Nat) (M : List Sq) : Prop := ∀ x ∈ M, 0 < x.s.vals.length → ∀ ad, x.A = some ad → some ad.block ≠ row
end Go.Proofs.YtbdichmkgcngbaaGreat
namespace Go.Proofs.YtbdichmkgcngbaaGreat
set_option linter.unusedVariables false
set_option linter.unusedSimpArgs false
open Go

section
variable {P : Program} {ops : Array Oper} {C : World → Prop} {Q : Act → Prop} {o : Oper} {rest : List Oper} {a : Act}
theorem q_val {v : Value} (hw : Region.wanted o (yielded ops a.tmps) = true) (h : ∀ W, C W → (execOp a.eval o).run P W = .ok (.value v) W) (hr : wpQuiet P ops C Q rest (a.put o.dst v)) :
    wpQuiet P ops C Q (o :: rest) a := by
  unfold wpQuiet
  rw [if_pos hw]
  exact ⟨v, fun W hW => by unfold Oper.quietAt; rw [h W hW]; exact ⟨rfl, rfl⟩, hr⟩
theorem q_call {v : Value} {f : FuncId} {args : Array Value} (hw : Region.wanted o (yielded ops a.tmps) = true) (h : ∀ W, C W → (execOp a.eval o).run P W = .ok (.enter f args) W)
    (hc : ∀ W, C W → Calls P f args W fun e w' => e = .returned v ∧ C w') (hr : wpQuiet P ops C Q rest (a.put o.dst v)) : wpQuiet P ops C Q (o :: rest) a := by
  unfold wpQuiet
  rw [if_pos hw]
  exact ⟨v, fun W hW => by unfold Oper.quietAt; rw [h W hW]; exact ⟨rfl, hc W hW⟩, hr⟩
theorem q_skip (hw : Region.wanted o (yielded ops a.tmps) = false) (hr : wpQuiet P ops C Q rest (a.put o.dst undef)) : wpQuiet P ops C Q (o :: rest) a := by
  unfold wpQuiet
  rw [if_neg (by rw [hw]; decide)]
  exact hr
/-- the beginning: at the class 'all that was there is as it was'. -/
theorem region_Q {id : Nat} {R : Exit → Act → World → Prop} {w : World} {l : List Oper} (hm : P.follows .mixedOrders = true) (hB : Region.lexB .any l.toArray = true)
    (h : wpQuiet P l.toArray (fun W => Gr w W) (fun a' => ∀ w', Gr w w' → R .normal a' w') l a) : (Code.region id l.toArray true).wp P R a w :=
  wp_region_quiet (C := fun W => Gr w W) hm hB (Gr.drew (Gr.refl w)) (by simpa using h)
end
end Go.Proofs.YtbdichmkgcngbaaGreat
namespace Go.Proofs.YtbdichmkgcngbaaGreat
set_option linter.unusedVariables false
set_option linter.unusedSimpArgs false
open Go.RowKit

/-- a part of a slice that reads, reads. -/
theorem Rv.sub {w : World} {ad : Addr} {l : List Vl} (h : Rv w (some ad) l) {p q : Nat} (hpq : p ≤ q) (hq : q ≤ l.length) : Rv w (some (ad.add (p * 2))) ((l.take q).drop p) := by
  refine ⟨vcells_length _, fun hn => ⟨_, rfl, ?_, fun j u hu => ?_⟩⟩
  · have hl : 0 < l.length := by
      have : ((l.take q).drop p).length ≤ l.length := by simp; omega
      omega
    obtain ⟨ad', e, hb, _⟩ := h.2 hl
    injection e with e
    subst e
    rw [add_blk]; exact hb
  · have hj : j < (vcells ((l.take q).drop p)).length := (List.getElem?_eq_some_iff.1 hu).1
    rw [vcells_length, List.length_drop, List.length_take] at hj
    obtain ⟨ad', e, hb, hc⟩ := h.2 (by omega)
    injection e with e
    subst e
    rw [add_two]
    refine hc _ _ ?_
    have e1 : l = l.take p ++ ((l.take q).drop p ++ l.drop q) := by
      rw [← List.append_assoc]
      have : l.take p ++ (l.take q).drop p = l.take q := by
        have h1 := List.take_append_drop p (l.take q)
        rw [List.take_take, Nat.min_eq_left hpq] at h1
        exact h1
      rw [this, List.take_append_drop]
    rw [e1, vcells_append, vcells_append, List.getElem?_append_right (by rw [vcells_length, List.length_take]; omega)]
    rw [vcells_length, List.length_take, Nat.min_eq_left (by omega), Nat.add_sub_cancel_left, List.getElem?_append_left (by rw [vcells_length, List.length_drop, List.length_take]; omega)]
    exact hu

end Go.Proofs.YtbdichmkgcngbaaGreat
namespace Go.Proofs.YtbdichmkgcngbaaGreat
set_option linter.unusedVariables false
set_option linter.unusedSimpArgs false
open Go

section
variable {P : Program} {ops : Array Oper} {Q : Exit → Act → World → Prop} {md : Region.Mode} {S : World → Prop} {z : Nat}

def wpAnyZ (P : Program) (md : Region.Mode) (ops : Array Oper) (Q : Exit → Act → World → Prop) (S : World → Prop) (z : Nat) : Nat → Array Bool → Act → World → Prop
  | 0, listed, a, w => Region.ready md ops listed = [] ∧ Q .normal a w
  | fuel + 1, listed, a, w =>
    (Region.ready md ops listed = [] → Q .normal a w) ∧
    ∀ i ∈ Region.ready md ops listed, wpOp P ops Q i (fun a' w' => (i ≠ z → S w') ∧ wpAnyZ P md ops Q S z fuel (listed.setIfInBounds i true) a' w') a w

theorem wpAny_of_Z : ∀ (fuel : Nat) (listed : Array Bool) (a : Act) (w : World), wpAnyZ P md ops Q S z fuel listed a w → wpAny P md ops Q fuel listed a w
  | 0, _, _, _, h => h
  | fuel + 1, _, _, _, h => ⟨h.1, fun i hi => wpOp_mono (fun a' w' h' => wpAny_of_Z fuel _ a' w' h'.2) (h.2 i hi)⟩

/-- z comes last: who may come up ahead of i is not z. -/
def lastB (md : Region.Mode) (ops : Array Oper) (z : Nat) : Bool := decide (z < ops.size) && decide (ops.size ≤ z + 1) && Region.sinkB md ops z && Region.chainB md ops z
def closedB (md : Region.Mode) (ops : Array Oper) (z : Nat) (listed : Array Bool) : Bool :=
  decide (listed.size = ops.size) && ((List.range ops.size).all fun j => !listed.getD j false || ((ops[j]?).map (·.after.all fun e => !Region.binds md e || listed.getD e.on false)).getD true) && (List.range ops.size).all fun t => decide (t < z) || !listed.getD t true
theorem closed_inv {listed : Array Bool} (h : closedB md ops z listed = true) : HeadInv md ops z listed := by
  unfold closedB at h
  simp only [Bool.and_eq_true, decide_eq_true_eq] at h
  obtain ⟨⟨h0, h1⟩, h2⟩ := h
  refine ⟨h0, fun j oj hj hl e he hb => ?_, fun t ht ht' => ?_⟩
  · have h3 := List.all_eq_true.1 h1 j (List.mem_range.2 (Array.getElem?_eq_some_iff.1 hj).1)
    rw [hl, hj] at h3
    simp only [Bool.not_true, Bool.false_or, Option.map_some, Option.getD_some] at h3
    have h4 := Array.all_eq_true'.1 h3 e he
    rw [hb] at h4
    simpa using h4
  · have h3 := List.all_eq_true.1 h2 t (List.mem_range.2 ht')
    simp only [Bool.or_eq_true, decide_eq_true_eq, Bool.not_eq_true'] at h3
    rcases h3 with h3 | h3
    · omega
    · exact h3

theorem wpAnyZ_first {i : Nat} {oi : Oper} {v : Value} (hi : ops[i]? = some oi) (hiz : i < z) (hsel : ∀ (j : Nat) (o : Oper) cs b, ops[j]? = some o → o.op ≠ .select cs b)
    (hlast : lastB md ops z = true) (hQ : ∀ c a w, Q (.panic c) (a.put oi.dst v) w → Q (.panic c) a w) :
    ∀ (fuel : Nat) (listed : Array Bool) (a : Act) (w : World), HeadInv md ops z listed →
      (∀ j oj, ops[j]? = some oj → j ≠ i → listed.getD j true = false → (∀ e ∈ oj.after, Region.binds md e = true → e.on ≠ i) → oi.apart ops oj = true) →
      i ∈ Region.ready md ops listed → YieldsIf P ops S oi v a → S w →
      wpAnyZ P md ops Q S z fuel (listed.setIfInBounds i true) (a.put oi.dst v) w → wpAnyZ P md ops Q S z (fuel + 1) listed a w := by
  have hl := hlast
  unfold lastB at hl
  simp only [Bool.and_eq_true, decide_eq_true_eq] at hl
  obtain ⟨⟨⟨hzs, hze⟩, hsink⟩, hchain⟩ := hl
  intro fuel
  induction fuel with
  | zero =>
    intro listed a w _ _ hr hy hS H
    refine ⟨fun h => (by rw [h] at hr; cases hr), fun j hj => ?_⟩
    by_cases hji : j = i
    · subst hji; exact hy.wpOp hi hS ⟨fun _ => hS, H⟩
    · have := ready_mono hj hji
      rw [H.1] at this
      cases this
  | succ fuel ih =>
    intro listed a w inv hfree hr hy hS H
    refine ⟨fun h => (by rw [h] at hr; cases hr), fun j hj => ?_⟩
    by_cases hji : j = i
    · subst hji; exact hy.wpOp hi hS ⟨fun _ => hS, H⟩
    · have h1 := H.2 j (ready_mono hj hji)
      obtain ⟨hjun, oj, hoj, hall⟩ := mem_ready.1 hj
      have hiun := (mem_ready.1 hr).1
      have hjz : j < z := by
        rcases Nat.lt_or_ge j z with h | h
        · exact h
        · exact absurd hj (tail_waits hsink hchain hzs inv _ i rfl hiz hiun j h)
      have hnot : ∀ e ∈ oj.after, Region.binds md e = true → e.on ≠ i := fun e he hb heq => by
        have h1 := hall e he hb
        rw [heq, getD_both hiun] at h1
        cases h1
      have h2 := wpOp_putIf hoj (hfree j oj hoj hji hjun hnot) (fun cs b => hsel i oi cs b hi) (fun cs b => hsel j oj cs b hoj) hQ hy h1
      have hfree' : ∀ k ok, ops[k]? = some ok → k ≠ i → (listed.setIfInBounds j true).getD k true = false →
          (∀ e ∈ ok.after, Region.binds md e = true → e.on ≠ i) → oi.apart ops ok = true := fun k ok hk hki hun hno => by
        refine hfree k ok hk hki ?_ hno
        by_cases hjk : j = k
        · subst hjk; exact hjun
        · rw [getD_set_ne true hjk] at hun; exact hun
      refine wpOp_mono (fun a' w' h3 => ⟨h3.2.1, ih (listed.setIfInBounds j true) a' w' (inv.set hj hjz) hfree' (ready_mono hr (Ne.symm hji)) h3.1 (h3.2.1 (by omega)) ?_⟩) h2
      rw [Array.setIfInBounds_comm _ _ hji]
      exact h3.2.2

/-- Take number i first. -/
theorem wpAnyZ_take {i : Nat} {oi : Oper} {v : Value} {fuel : Nat} {listed : Array Bool} {a : Act} {w : World} (hi : ops[i]? = some oi) (hlast : (decide (i < z) && lastB md ops z && closedB md ops z listed && Region.noSelect ops && Region.free md ops listed i && (Region.ready md ops listed).contains i) = true)
    (hQ : ∀ c a w, Q (.panic c) (a.put oi.dst v) w → Q (.panic c) a w) (hw : Region.wanted oi (yielded ops a.tmps) = true) (hy : ∀ w, S w → (execOp a.eval oi).run P w = .ok (.value v) w) (hS : S w)
    (h : wpAnyZ P md ops Q S z fuel (listed.setIfInBounds i true) (a.put oi.dst v) w) : wpAnyZ P md ops Q S z (fuel + 1) listed a w := by
  simp only [Bool.and_eq_true, decide_eq_true_eq] at hlast
  obtain ⟨⟨⟨⟨⟨h0, h1⟩, h2⟩, h3⟩, h4⟩, h5⟩ := hlast
  exact wpAnyZ_first hi h0 (Region.noSelect_spec h3) h1 hQ fuel listed a w (closed_inv h2) (Region.free_spec hi h4) (by simpa using h5) (Or.inl ⟨hw, hy⟩) hS h

def AllReadyZ (P : Program) (md : Region.Mode) (ops : Array Oper) (Q : Exit → Act → World → Prop) (S : World → Prop) (z fuel : Nat) (listed : Array Bool) (a : Act) (w : World) (rs : List Nat) : Prop :=
  ∀ i ∈ rs, wpOp P ops Q i (fun a' w' => (i ≠ z → S w') ∧ wpAnyZ P md ops Q S z fuel (listed.setIfInBounds i true) a' w') a w
theorem AllReadyZ.nil {fuel : Nat} {listed : Array Bool} {a : Act} {w : World} : AllReadyZ P md ops Q S z fuel listed a w [] := fun _ h => by cases h
theorem AllReadyZ.cons {fuel : Nat} {listed : Array Bool} {a : Act} {w : World} {i : Nat} {o : Oper} {rs : List Nat} (ho : ops[i]? = some o) (hw : Region.wanted o (yielded ops a.tmps) = true)
    (h : ∀ K' : Act → World → Prop, Shut (∀ a w, (i ≠ z → S w) → ((i ≠ z → S w) → wpAnyZ P md ops Q S z fuel (listed.setIfInBounds i true) a w) → K' a w) → Oper.wp P o a w K' Q)
    (hs : AllReadyZ P md ops Q S z fuel listed a w rs) : AllReadyZ P md ops Q S z fuel listed a w (i :: rs) := fun j hj => by
  rcases List.mem_cons.1 hj with rfl | hj
  · exact wpOp_step ho (fun K' hK => by rw [if_pos hw]; exact h K' (fun a w hS hW => hK a w ⟨hS, hW hS⟩))
  · exact hs j hj
theorem wpAnyZ_ready {rs : List Nat} {fuel : Nat} {listed : Array Bool} {a : Act} {w : World} (hr : Region.ready md ops listed = rs) (hne : rs ≠ [])
    (h : AllReadyZ P md ops Q S z fuel listed a w rs) : wpAnyZ P md ops Q S z (fuel + 1) listed a w :=
  ⟨fun h0 => absurd (hr ▸ h0) hne, hr ▸ h⟩
theorem wpAnyZ_done {listed : Array Bool} {a : Act} {w : World} (hr : Region.ready md ops listed = []) (h : Q .normal a w) : ∀ fuel, wpAnyZ P md ops Q S z fuel listed a w
  | 0 => ⟨hr, h⟩
  | _ + 1 => ⟨fun _ => h, by rw [hr]; simp⟩
theorem wp_region_Z (z : Nat) (S : World → Prop) {id : Nat} {a : Act} {w : World} (hm : P.follows .mixedOrders = true)
    (h : wpAnyZ P .any ops Q S z ops.size (Array.replicate ops.size false) a w.drew) : (Code.region id ops true).wp P Q a w :=
  wp_region_any hm (wpAny_of_Z _ _ _ _ h)
end
end Go.Proofs.YtbdichmkgcngbaaGreat
namespace Go.Proofs.YtbdichmkgcngbaaGreat
set_option linter.unusedVariables false
set_option linter.unusedSimpArgs false
open Go.RowKit

section
variable {P : Program} {w : World}
theorem wp_append_rd {o : Oper} {a : Act} {Q : Exit → Act → World → Prop} {K : Act → World → Prop} (s x : Operand) (t : TypeId)
    (ho : o.op = .call { callee := .builtin .append, args := #[s, x], argTypes := #[t, t] })
    (base : Nat) (e : TypeId) (i : TypeInfo) (z : Value) (size bytes : Nat) (ht : P.underlying t = some (.slice e)) (hi : P.info? e = some i) (hz : i.zero = some z)
    (hsize : i.size = size) (hby : i.bytes = bytes) (hzs : z.cells.size = size) (hsz : 0 < size)
    (v : Value) (n : Nat) (xs : List Value) (hs : a.eval s = v) (hown : w.ownsRow base e size v n xs)
    (ad : Addr) (m c : Nat) (news : List Value) (hx : a.eval x = .slice (some ad) m c) (hr : Rd w size (some ad) m news) (hm : 0 < m) (h1 : ∀ u ∈ news, u.oneCell' = true)
    (h63 : n + m ≤ maxLen) (hbytes : (n + m) * bytes ≤ 140737488355328) (hbase : base ≤ w.heap.size)
    (h : ∀ v' w', w'.ownsRow base e size v' (n + m) (xs ++ news) → w.grownBy w' v.ownBlock → (v'.ownBlock = v.ownBlock ∨ v'.ownBlock = some w.heap.size) → K (a.put o.dst v') w') : Oper.wp P o a w K Q := by
  obtain ⟨ad', e', _, hc⟩ := hr.2 hm
  injection e' with e'
  subst e'
  obtain ⟨v', w', hr1, h2, h3, _, h4⟩ := run_append_own_at (P := P) w base t o.type e i z size bytes ht hi hz hsize hby hzs hsz v n xs hown ad m c news hr.1 hc h1 h63 hbytes hbase
  unfold Oper.wp execOp
  simp only [ho, resolve, invoke, builtin, Sem.run_bind, Sem.run_pure, Result.andThen_ok, List.map_toArray, List.map_cons, List.map_nil, hs, hx, hr1]
  exact h v' w' h2 h3 h4
theorem own_set {base : Nat} {e : TypeId} {size n : Nat} {v : Value} {xs : List Value} (h : w.ownsRow base e size v n xs) {p : Addr} (hp : p.block < base) (u : Value) : (w.setCell p u).ownsRow base e size v n xs := by
  obtain ⟨h1, ⟨hv, h0⟩ | ⟨g', cap, cur, hv, hb, hh, h2⟩⟩ := h
  · exact ⟨h1, .inl ⟨hv, h0⟩⟩
  · exact ⟨h1, .inr ⟨g', cap, cur, hv, hb, (Below.heap_setCell w p u g' (by omega)).trans hh, h2⟩⟩
end

/-- the cells of Fit's frame: the series that came in (block B0), the result (block B0 + 1), what is made (block B9). -/
def FC (s : Sr) (A : Option Addr) (c : Nat) (start step : Int) (B0 B9 : Nat) (A' : Option Addr) (k c' : Nat) (W : World) : Prop :=
  W.cell? ⟨B0, 0, none⟩ = some (.string s.name) ∧
  W.cell? ⟨B0, 1, none⟩ = some (.int .i64 s.start) ∧
  W.cell? ⟨B0, 2, none⟩ = some (.int .i64 s.step) ∧
  W.cell? ⟨B0, 3, none⟩ = some (.slice A s.vals.length c) ∧
  W.cell? ⟨B0, 4, none⟩ = some (.int .i64 s.cons) ∧
  W.cell? ⟨B0 + 1, 0, none⟩ = some (.string ⟨#[]⟩) ∧
  W.cell? ⟨B0 + 1, 1, none⟩ = some (.int .i64 0) ∧
  W.cell? ⟨B0 + 1, 2, none⟩ = some (.int .i64 0) ∧
  W.cell? ⟨B0 + 1, 3, none⟩ = some (.slice none 0 0) ∧
  W.cell? ⟨B0 + 1, 4, none⟩ = some (.int .i64 0) ∧
  W.frozen? ⟨B0 + 1, 0, none⟩ = false ∧
  W.frozen? ⟨B0 + 1, 1, none⟩ = false ∧
  W.frozen? ⟨B0 + 1, 2, none⟩ = false ∧
  W.frozen? ⟨B0 + 1, 3, none⟩ = false ∧
  W.frozen? ⟨B0 + 1, 4, none⟩ = false ∧
  W.cell? ⟨B9, 0, none⟩ = some (.string s.name) ∧
  W.cell? ⟨B9, 1, none⟩ = some (.int .i64 start) ∧
  W.cell? ⟨B9, 2, none⟩ = some (.int .i64 step) ∧
  W.cell? ⟨B9, 3, none⟩ = some ((.slice A' k c')) ∧
  W.cell? ⟨B9, 4, none⟩ = some (.int .i64 s.cons) ∧
  W.frozen? ⟨B9, 3, none⟩ = false ∧
  B9 < W.heap.size
theorem FC.below {s : Sr} {A : Option Addr} {c : Nat} {start step : Int} {B0 B9 : Nat} {A' : Option Addr} {k c' : Nat} {W W' : World} (h : FC s A c start step B0 B9 A' k c' W) (hz : B0 + 1 < B9) (g : Below (B9 + 1) W W') : FC s A c start step B0 B9 A' k c' W' := by
  obtain ⟨q0, q1, q2, q3, q4, p0, p1, p2, p3, p4, g0, g1, g2, g3, g4, o0, o1, o2, o3, o4, f3, sz⟩ := h
  have h0 : B0 < B9 + 1 := by omega
  have h1 : B0 + 1 < B9 + 1 := by omega
  have h2 : B9 < B9 + 1 := by omega
  exact ⟨(g.cell (p := ⟨B0, 0, none⟩) h0).trans q0, (g.cell (p := ⟨B0, 1, none⟩) h0).trans q1, (g.cell (p := ⟨B0, 2, none⟩) h0).trans q2, (g.cell (p := ⟨B0, 3, none⟩) h0).trans q3, (g.cell (p := ⟨B0, 4, none⟩) h0).trans q4, (g.cell (p := ⟨B0 + 1, 0, none⟩) h1).trans p0, (g.cell (p := ⟨B0 + 1, 1, none⟩) h1).trans p1, (g.cell (p := ⟨B0 + 1, 2, none⟩) h1).trans p2, (g.cell (p := ⟨B0 + 1, 3, none⟩) h1).trans p3, (g.cell (p := ⟨B0 + 1, 4, none⟩) h1).trans p4, (g.frozen (p := ⟨B0 + 1, 0, none⟩) h1).trans g0, (g.frozen (p := ⟨B0 + 1, 1, none⟩) h1).trans g1, (g.frozen (p := ⟨B0 + 1, 2, none⟩) h1).trans g2, (g.frozen (p := ⟨B0 + 1, 3, none⟩) h1).trans g3, (g.frozen (p := ⟨B0 + 1, 4, none⟩) h1).trans g4, (g.cell (p := ⟨B9, 0, none⟩) h2).trans o0, (g.cell (p := ⟨B9, 1, none⟩) h2).trans o1, (g.cell (p := ⟨B9, 2, none⟩) h2).trans o2, (g.cell (p := ⟨B9, 3, none⟩) h2).trans o3, (g.cell (p := ⟨B9, 4, none⟩) h2).trans o4, (g.frozen (p := ⟨B9, 3, none⟩) h2).trans f3, Nat.lt_of_lt_of_le sz g.size⟩
theorem FC.gr {s : Sr} {A : Option Addr} {c : Nat} {start step : Int} {B0 B9 : Nat} {A' : Option Addr} {k c' : Nat} {W W' : World} (h : FC s A c start step B0 B9 A' k c' W) (hz : B0 + 1 < B9) (g : Gr W W') : FC s A c start step B0 B9 A' k c' W' :=
  h.below hz (Below.mono g (by obtain ⟨_, _, _, _, _, _, _, _, _, _, _, _, _, _, _, _, _, _, _, _, _, sz⟩ := h; omega))
theorem FC.set {s : Sr} {A : Option Addr} {c : Nat} {start step : Int} {B0 B9 : Nat} {A' : Option Addr} {k c' : Nat} {W : World} (h : FC s A c start step B0 B9 A' k c' W) (hz : B0 + 1 < B9) (A2 : Option Addr) (k2 c2 : Nat) :
    FC s A c start step B0 B9 A2 k2 c2 (W.setCell ⟨B9, 3, none⟩ (.slice A2 k2 c2)) := by
  obtain ⟨q0, q1, q2, q3, q4, p0, p1, p2, p3, p4, g0, g1, g2, g3, g4, o0, o1, o2, o3, o4, f3, sz⟩ := h
  have n0 : B9 ≠ B0 := by omega
  have n1 : B9 ≠ B0 + 1 := by omega
  refine ⟨?_, ?_, ?_, ?_, ?_, ?_, ?_, ?_, ?_, ?_, ?_, ?_, ?_, ?_, ?_, ?_, ?_, ?_, ?_, ?_, ?_, ?_⟩
  · exact (World.cell?_setCell_far W ⟨B9, 3, none⟩ ⟨B0, 0, none⟩ _ n0).trans q0
  · exact (World.cell?_setCell_far W ⟨B9, 3, none⟩ ⟨B0, 1, none⟩ _ n0).trans q1
  · exact (World.cell?_setCell_far W ⟨B9, 3, none⟩ ⟨B0, 2, none⟩ _ n0).trans q2
  · exact (World.cell?_setCell_far W ⟨B9, 3, none⟩ ⟨B0, 3, none⟩ _ n0).trans q3
  · exact (World.cell?_setCell_far W ⟨B9, 3, none⟩ ⟨B0, 4, none⟩ _ n0).trans q4
  · exact (World.cell?_setCell_far W ⟨B9, 3, none⟩ ⟨B0 + 1, 0, none⟩ _ n1).trans p0
  · exact (World.cell?_setCell_far W ⟨B9, 3, none⟩ ⟨B0 + 1, 1, none⟩ _ n1).trans p1
  · exact (World.cell?_setCell_far W ⟨B9, 3, none⟩ ⟨B0 + 1, 2, none⟩ _ n1).trans p2
  · exact (World.cell?_setCell_far W ⟨B9, 3, none⟩ ⟨B0 + 1, 3, none⟩ _ n1).trans p3
  · exact (World.cell?_setCell_far W ⟨B9, 3, none⟩ ⟨B0 + 1, 4, none⟩ _ n1).trans p4
  · exact (by simp : (W.setCell ⟨B9, 3, none⟩ (.slice A2 k2 c2)).frozen? ⟨B0 + 1, 0, none⟩ = W.frozen? ⟨B0 + 1, 0, none⟩).trans g0
  · exact (by simp : (W.setCell ⟨B9, 3, none⟩ (.slice A2 k2 c2)).frozen? ⟨B0 + 1, 1, none⟩ = W.frozen? ⟨B0 + 1, 1, none⟩).trans g1
  · exact (by simp : (W.setCell ⟨B9, 3, none⟩ (.slice A2 k2 c2)).frozen? ⟨B0 + 1, 2, none⟩ = W.frozen? ⟨B0 + 1, 2, none⟩).trans g2
  · exact (by simp : (W.setCell ⟨B9, 3, none⟩ (.slice A2 k2 c2)).frozen? ⟨B0 + 1, 3, none⟩ = W.frozen? ⟨B0 + 1, 3, none⟩).trans g3
  · exact (by simp : (W.setCell ⟨B9, 3, none⟩ (.slice A2 k2 c2)).frozen? ⟨B0 + 1, 4, none⟩ = W.frozen? ⟨B0 + 1, 4, none⟩).trans g4
  · exact (World.cell?_setCell_other W ⟨B9, 3, none⟩ ⟨B9, 0, none⟩ _ (by simp)).trans o0
  · exact (World.cell?_setCell_other W ⟨B9, 3, none⟩ ⟨B9, 1, none⟩ _ (by simp)).trans o1
  · exact (World.cell?_setCell_other W ⟨B9, 3, none⟩ ⟨B9, 2, none⟩ _ (by simp)).trans o2
  · go_simp
  · exact (World.cell?_setCell_other W ⟨B9, 3, none⟩ ⟨B9, 4, none⟩ _ (by simp)).trans o4
  · exact (by simp : (W.setCell ⟨B9, 3, none⟩ (.slice A2 k2 c2)).frozen? ⟨B9, 3, none⟩ = W.frozen? ⟨B9, 3, none⟩).trans f3
  · simpa using sz
end Go.Proofs.YtbdichmkgcngbaaGreat
namespace Go.Proofs.YtbdichmkgcngbaaGreat
set_option linter.unusedVariables false
set_option linter.unusedSimpArgs false
open Go.RowKit

end Go.Proofs.YtbdichmkgcngbaaGreat
namespace Go.Proofs.YtbdichmkgcngbaaGreat
set_option linter.unusedVariables false
set_option linter.unusedSimpArgs false
open Go.RowKit

theorem own_at (B : Nat) (w : World) (hB : B = w.heap.size) (e : TypeId) (size : Nat) : (w.alloc (.cells #[] e)).ownsRow B e size (.slice (some ⟨B, 0, none⟩) 0 0) 0 [] := by
  subst hB; exact own_empty w _ (Nat.le_refl _) e size

set_option maxRecDepth 100000 in
set_option maxHeartbeats 1600000 in
theorem own_any (s : Sr) (A : Option Addr) (c : Nat) (w : World) (hl : s.vals.length ≤ 1000000) (hr : Rv w A s.vals) :
    Calls Tryz.prog 35 #[.agg #[.string s.name, .int .i64 s.start, .int .i64 s.step, .slice A s.vals.length c, .int .i64 s.cons]] w (RetS s w) := by
  go_enter Tryz.func35, Tryz.ntmps35
  go_wp2_with fail
  refine (clone_any A c s.vals _ hl ?hr).mono ?_
  case hr => exact hr.gr (by repeat (first | exact Gr.refl _ | refine Gr.alloc ?_ _ | refine Gr.drew ?_ | refine Gr.setCell ?_ (by first | (simp; done) | (simp; omega) | omega) _ | refine Gr.trans ?_ (by assumption)))
  rintro e w1 ⟨A', c', rfl, hrv, hg, hnew⟩
  obtain ⟨hc, hf⟩ := hg.cells
  have z1 := hg.size
  simp at z1
  have z0 : w.heap.size < w1.heap.size := by omega
  have z2 : w.heap.size + 1 < w1.heap.size := by omega
  have hgw : Gr w w1 := (by repeat (first | exact Gr.refl _ | refine Gr.alloc ?_ _ | refine Gr.drew ?_ | refine Gr.setCell ?_ (by first | (simp; done) | (simp; omega) | omega) _ | refine Gr.trans ?_ (by assumption)))
  have q0 : w1.cell? ⟨w.heap.size, 0, none⟩ = some (.string s.name) := by go_simp
  have f0 : w1.frozen? ⟨w.heap.size, 0, none⟩ = false := by go_simp
  have q1 : w1.cell? ⟨w.heap.size, 1, none⟩ = some (.int .i64 s.start) := by go_simp
  have f1 : w1.frozen? ⟨w.heap.size, 1, none⟩ = false := by go_simp
  have q2 : w1.cell? ⟨w.heap.size, 2, none⟩ = some (.int .i64 s.step) := by go_simp
  have f2 : w1.frozen? ⟨w.heap.size, 2, none⟩ = false := by go_simp
  have q3 : w1.cell? ⟨w.heap.size, 3, none⟩ = some (.slice A s.vals.length c) := by go_simp
  have f3 : w1.frozen? ⟨w.heap.size, 3, none⟩ = false := by go_simp
  have q4 : w1.cell? ⟨w.heap.size, 4, none⟩ = some (.int .i64 s.cons) := by go_simp
  have f4 : w1.frozen? ⟨w.heap.size, 4, none⟩ = false := by go_simp
  have p0 : w1.cell? ⟨w.heap.size + 1, 0, none⟩ = some (.string ⟨#[]⟩) := by go_simp
  have g0 : w1.frozen? ⟨w.heap.size + 1, 0, none⟩ = false := by go_simp
  have p1 : w1.cell? ⟨w.heap.size + 1, 1, none⟩ = some (.int .i64 0) := by go_simp
  have g1 : w1.frozen? ⟨w.heap.size + 1, 1, none⟩ = false := by go_simp
  have p2 : w1.cell? ⟨w.heap.size + 1, 2, none⟩ = some (.int .i64 0) := by go_simp
  have g2 : w1.frozen? ⟨w.heap.size + 1, 2, none⟩ = false := by go_simp
  have p3 : w1.cell? ⟨w.heap.size + 1, 3, none⟩ = some (.slice none 0 0) := by go_simp
  have g3 : w1.frozen? ⟨w.heap.size + 1, 3, none⟩ = false := by go_simp
  have p4 : w1.cell? ⟨w.heap.size + 1, 4, none⟩ = some (.int .i64 0) := by go_simp
  have g4 : w1.frozen? ⟨w.heap.size + 1, 4, none⟩ = false := by go_simp
  have hn1 : ∀ ad, A' = some ad → w.heap.size + 1 < ad.block := fun ad h => by have := hnew ad h; simp at this; omega
  have hn0 : ∀ ad, A' = some ad → w.heap.size < ad.block := fun ad h => by have := hn1 ad h; omega
  clear hc hf hg hnew
  go_wp2
  refine bodyPost_ret (v := .agg #[.string s.name, .int .i64 s.start, .int .i64 s.step, .slice A' s.vals.length c', .int .i64 s.cons]) (by simp [results, Tryz.results35, go_sem, *]) rfl ⟨A', c', rfl, ?_, ?_, ?_⟩
  · exact (Rv.set (Rv.set (Rv.set (Rv.set (Rv.set (Rv.set hrv _ _ hn0) _ _ hn1) _ _ hn1) _ _ hn1) _ _ hn1) _ _ hn1)
  · exact (Gr.setCell (Gr.setCell (Gr.setCell (Gr.setCell (Gr.setCell (Gr.setCell hgw (Nat.le_refl _) _) (Nat.le_succ _) _) (Nat.le_succ _) _) (Nat.le_succ _) _) (Nat.le_succ _) _) (Nat.le_succ _) _)
  · exact fun ad h => Nat.le_of_lt (hn0 ad h)

set_option maxRecDepth 100000 in
set_option maxHeartbeats 1600000 in
theorem rown_any (s : Sr) (A : Option Addr) (c : Nat) (w : World) (hl : s.vals.length ≤ 1000000) (hr : Rv w A s.vals) :
    Calls Tryz.prog 40 #[.agg #[.string s.name, .int .i64 s.start, .int .i64 s.step, .slice A s.vals.length c, .int .i64 s.cons]] w (RetS s w) := by
  obtain ⟨i0, hi, hz0, hz1, hz2⟩ := info_parts info_val
  have hown0 := own_at (w.heap.size + 1 + 1) ((w.alloc (.cells #[.string s.name, .int .i64 s.start, .int .i64 s.step, .slice A s.vals.length c, .int .i64 s.cons] 30)).alloc (.cells #[.string ⟨#[]⟩, .int .i64 0, .int .i64 0, .slice none 0 0, .int .i64 0] 30)) (by simp) 23 2
  have hr0 := hr.gr (Gr.alloc (Gr.alloc (Gr.alloc (Gr.refl w) (.cells #[.string s.name, .int .i64 s.start, .int .i64 s.step, .slice A s.vals.length c, .int .i64 s.cons] 30)) (.cells #[.string ⟨#[]⟩, .int .i64 0, .int .i64 0, .slice none 0 0, .int .i64 0] 30)) (.cells #[] 23))
  have hg0 := Gr.alloc (Gr.alloc (Gr.alloc (Gr.refl w) (.cells #[.string s.name, .int .i64 s.start, .int .i64 s.step, .slice A s.vals.length c, .int .i64 s.cons] 30)) (.cells #[.string ⟨#[]⟩, .int .i64 0, .int .i64 0, .slice none 0 0, .int .i64 0] 30)) (.cells #[] 23)
  have hg1 := Gr.alloc (Gr.refl ((w.alloc (.cells #[.string s.name, .int .i64 s.start, .int .i64 s.step, .slice A s.vals.length c, .int .i64 s.cons] 30)).alloc (.cells #[.string ⟨#[]⟩, .int .i64 0, .int .i64 0, .slice none 0 0, .int .i64 0] 30))) (.cells #[] 23)
  go_enter Tryz.func40, Tryz.ntmps40
  go_wp2_with
    (at_builtin
     refine wpList_append_rd rfl (.tmp 3) (.tmp 5) 28 rfl (w.heap.size + 1 + 1) 23 i0 _ 2 16 Tryz.underlying28 hi hz0 hz1 hz2 rfl (by decide) _ _ _ rfl hown0 A s.vals.length c (vcells s.vals) rfl hr0 (vcells_one _) (by unfold maxLen; omega) (by omega) (by simp) ?_
     intro v' w1 hown2 hgr2 hat2
     have hgw : Gr w w1 := Gr.grown hg0 hgr2 (fun k hk => by have h : some (w.heap.size + 1 + 1) = some k := hk; injection h with h; omega)
     have hgB := Gr.grown hg1 hgr2 (fun k hk => by have h : some (w.heap.size + 1 + 1) = some k := hk; injection h with h; simp; omega)
     rw [Nat.zero_add, List.nil_append] at hown2
     obtain ⟨A', c', hv⟩ := own_form hown2
     subst hv
     have hrv := Rd.own hown2
     have hn1 : ∀ ad, A' = some ad → w.heap.size + 1 < ad.block := fun ad h => by have := own_new hown2 ad h; omega
     have hn0 : ∀ ad, A' = some ad → w.heap.size < ad.block := fun ad h => by have := hn1 ad h; omega
     obtain ⟨hc, hf⟩ := hgB.cells
     have z1 := hgB.size
     simp at z1
     have z0 : w.heap.size < w1.heap.size := by omega
     have z2 : w.heap.size + 1 < w1.heap.size := by omega
     have q0 : w1.cell? ⟨w.heap.size, 0, none⟩ = some (.string s.name) := by go_simp
     have f0 : w1.frozen? ⟨w.heap.size, 0, none⟩ = false := by go_simp
     have q1 : w1.cell? ⟨w.heap.size, 1, none⟩ = some (.int .i64 s.start) := by go_simp
     have f1 : w1.frozen? ⟨w.heap.size, 1, none⟩ = false := by go_simp
     have q2 : w1.cell? ⟨w.heap.size, 2, none⟩ = some (.int .i64 s.step) := by go_simp
     have f2 : w1.frozen? ⟨w.heap.size, 2, none⟩ = false := by go_simp
     have q3 : w1.cell? ⟨w.heap.size, 3, none⟩ = some (.slice A s.vals.length c) := by go_simp
     have f3 : w1.frozen? ⟨w.heap.size, 3, none⟩ = false := by go_simp
     have q4 : w1.cell? ⟨w.heap.size, 4, none⟩ = some (.int .i64 s.cons) := by go_simp
     have f4 : w1.frozen? ⟨w.heap.size, 4, none⟩ = false := by go_simp
     have p0 : w1.cell? ⟨w.heap.size + 1, 0, none⟩ = some (.string ⟨#[]⟩) := by go_simp
     have g0 : w1.frozen? ⟨w.heap.size + 1, 0, none⟩ = false := by go_simp
     have p1 : w1.cell? ⟨w.heap.size + 1, 1, none⟩ = some (.int .i64 0) := by go_simp
     have g1 : w1.frozen? ⟨w.heap.size + 1, 1, none⟩ = false := by go_simp
     have p2 : w1.cell? ⟨w.heap.size + 1, 2, none⟩ = some (.int .i64 0) := by go_simp
     have g2 : w1.frozen? ⟨w.heap.size + 1, 2, none⟩ = false := by go_simp
     have p3 : w1.cell? ⟨w.heap.size + 1, 3, none⟩ = some (.slice none 0 0) := by go_simp
     have g3 : w1.frozen? ⟨w.heap.size + 1, 3, none⟩ = false := by go_simp
     have p4 : w1.cell? ⟨w.heap.size + 1, 4, none⟩ = some (.int .i64 0) := by go_simp
     have g4 : w1.frozen? ⟨w.heap.size + 1, 4, none⟩ = false := by go_simp
     clear hc hf hgB hg0 hg1 hgr2 hat2 hown2 hown0 hr0)
  refine bodyPost_ret (v := .agg #[.string s.name, .int .i64 s.start, .int .i64 s.step, .slice A' s.vals.length c', .int .i64 s.cons]) (by simp [results, Tryz.results40, go_sem, *]) rfl ⟨A', c', rfl, ?_, ?_, ?_⟩
  · exact (Rv.set (Rv.set (Rv.set (Rv.set (Rv.set (Rv.set hrv _ _ hn0) _ _ hn1) _ _ hn1) _ _ hn1) _ _ hn1) _ _ hn1)
  · exact (Gr.setCell (Gr.setCell (Gr.setCell (Gr.setCell (Gr.setCell (Gr.setCell hgw (Nat.le_refl _) _) (Nat.le_succ _) _) (Nat.le_succ _) _) (Nat.le_succ _) _) (Nat.le_succ _) _) (Nat.le_succ _) _)
  · exact fun ad h => Nat.le_of_lt (hn0 ad h)
end Go.Proofs.YtbdichmkgcngbaaGreat
namespace Go.Proofs.YtbdichmkgcngbaaGreat
set_option linter.unusedVariables false
set_option linter.unusedSimpArgs false
open Go.RowKit

end Go.Proofs.YtbdichmkgcngbaaGreat
namespace Go.Proofs.YtbdichmkgcngbaaGreat
set_option linter.unusedVariables false
set_option linter.unusedSimpArgs false
open Go.RowKit

def FB (s : Sr) (A : Option Addr) (c : Nat) (B0 : Nat) (W : World) : Prop :=
  W.cell? ⟨B0, 0, none⟩ = some (.string s.name) ∧ W.cell? ⟨B0, 1, none⟩ = some (.int .i64 s.start) ∧ W.cell? ⟨B0, 2, none⟩ = some (.int .i64 s.step) ∧ W.cell? ⟨B0, 3, none⟩ = some (.slice A s.vals.length c) ∧ W.cell? ⟨B0, 4, none⟩ = some (.int .i64 s.cons) ∧ W.cell? ⟨B0 + 1, 0, none⟩ = some (.string ⟨#[]⟩) ∧ W.cell? ⟨B0 + 1, 1, none⟩ = some (.int .i64 0) ∧ W.cell? ⟨B0 + 1, 2, none⟩ = some (.int .i64 0) ∧ W.cell? ⟨B0 + 1, 3, none⟩ = some (.slice none 0 0) ∧ W.cell? ⟨B0 + 1, 4, none⟩ = some (.int .i64 0) ∧ W.frozen? ⟨B0 + 1, 0, none⟩ = false ∧ W.frozen? ⟨B0 + 1, 1, none⟩ = false ∧ W.frozen? ⟨B0 + 1, 2, none⟩ = false ∧ W.frozen? ⟨B0 + 1, 3, none⟩ = false ∧ W.frozen? ⟨B0 + 1, 4, none⟩ = false ∧ B0 + 1 < W.heap.size
theorem FB.gr {s : Sr} {A : Option Addr} {c : Nat} {B0 : Nat} {W W' : World} (h : FB s A c B0 W) (g : Gr W W') : FB s A c B0 W' := by
  obtain ⟨q0, q1, q2, q3, q4, p0, p1, p2, p3, p4, g0, g1, g2, g3, g4, sz⟩ := h
  have h0 : B0 < W.heap.size := by omega
  exact ⟨(g.cell (p := ⟨B0, 0, none⟩) h0).trans q0, (g.cell (p := ⟨B0, 1, none⟩) h0).trans q1, (g.cell (p := ⟨B0, 2, none⟩) h0).trans q2, (g.cell (p := ⟨B0, 3, none⟩) h0).trans q3, (g.cell (p := ⟨B0, 4, none⟩) h0).trans q4, (g.cell (p := ⟨B0 + 1, 0, none⟩) sz).trans p0, (g.cell (p := ⟨B0 + 1, 1, none⟩) sz).trans p1, (g.cell (p := ⟨B0 + 1, 2, none⟩) sz).trans p2, (g.cell (p := ⟨B0 + 1, 3, none⟩) sz).trans p3, (g.cell (p := ⟨B0 + 1, 4, none⟩) sz).trans p4, (g.frozen (p := ⟨B0 + 1, 0, none⟩) sz).trans g0, (g.frozen (p := ⟨B0 + 1, 1, none⟩) sz).trans g1, (g.frozen (p := ⟨B0 + 1, 2, none⟩) sz).trans g2, (g.frozen (p := ⟨B0 + 1, 3, none⟩) sz).trans g3, (g.frozen (p := ⟨B0 + 1, 4, none⟩) sz).trans g4, Nat.lt_of_lt_of_le sz g.size⟩

end Go.Proofs.YtbdichmkgcngbaaGreat
namespace Go.Proofs.YtbdichmkgcngbaaGreat
set_option linter.unusedVariables false
set_option linter.unusedSimpArgs false
open Go.RowKit

def seqL (k : Nat) : List Vl := (List.range k).map fun (i : Nat) => ⟨true, (i : Int) + 1⟩
theorem seqL_len (k : Nat) : (seqL k).length = k := by simp [seqL]
theorem seqL_succ (k : Nat) : seqL (k + 1) = seqL k ++ [⟨true, (k : Int) + 1⟩] := by simp [seqL, List.range_succ]
theorem shrunk5 : shrinkS ⟨⟨#[97]⟩, 0, 10, seqL 5, 0⟩ 2 = ⟨⟨#[97]⟩, 0, 30, [⟨true, 2⟩, ⟨true, 5⟩], 0⟩ := by kernel_rfl
theorem own_cap {w : World} {base : Nat} {e : TypeId} {size n c : Nat} {A : Option Addr} {xs : List Value} (h : w.ownsRow base e size (.slice A n c) n xs) : n ≤ c := by
  obtain ⟨_, ⟨hv, h0⟩ | ⟨g, cap, cur, hv, _, _, hc, _⟩⟩ := h
  · omega
  · injection hv with _ _ h3; omega
def KC (B : Nat) (v : Value) (W : World) : Prop := W.cell? ⟨B, 0, none⟩ = some (.string ⟨#[97]⟩) ∧ W.cell? ⟨B, 1, none⟩ = some (.int .i64 0) ∧ W.cell? ⟨B, 2, none⟩ = some (.int .i64 10) ∧ W.cell? ⟨B, 3, none⟩ = some (v) ∧ W.cell? ⟨B, 4, none⟩ = some (.int .i64 0) ∧ W.frozen? ⟨B, 3, none⟩ = false ∧ B < W.heap.size
theorem KC.below {B : Nat} {v : Value} {W W' : World} (h : KC B v W) (g : Below (B + 1) W W') : KC B v W' := by
  obtain ⟨c0, c1, c2, c3, c4, f3, sz⟩ := h
  exact ⟨(g.cell (p := ⟨B, 0, none⟩) (Nat.lt_succ_self B)).trans c0, (g.cell (p := ⟨B, 1, none⟩) (Nat.lt_succ_self B)).trans c1, (g.cell (p := ⟨B, 2, none⟩) (Nat.lt_succ_self B)).trans c2, (g.cell (p := ⟨B, 3, none⟩) (Nat.lt_succ_self B)).trans c3, (g.cell (p := ⟨B, 4, none⟩) (Nat.lt_succ_self B)).trans c4, (g.frozen (p := ⟨B, 3, none⟩) (Nat.lt_succ_self B)).trans f3, Nat.lt_of_lt_of_le sz g.size⟩
theorem KC.set {B : Nat} {v : Value} {W : World} (h : KC B v W) (u : Value) : KC B u (W.setCell ⟨B, 3, none⟩ u) := by
  obtain ⟨c0, c1, c2, c3, c4, f3, sz⟩ := h
  refine ⟨?_, ?_, ?_, ?_, ?_, ?_, ?_⟩
  · exact (World.cell?_setCell_other W ⟨B, 3, none⟩ ⟨B, 0, none⟩ _ (by simp)).trans c0
  · exact (World.cell?_setCell_other W ⟨B, 3, none⟩ ⟨B, 1, none⟩ _ (by simp)).trans c1
  · exact (World.cell?_setCell_other W ⟨B, 3, none⟩ ⟨B, 2, none⟩ _ (by simp)).trans c2
  · go_simp
  · exact (World.cell?_setCell_other W ⟨B, 3, none⟩ ⟨B, 4, none⟩ _ (by simp)).trans c4
  · exact (by simp : (W.setCell ⟨B, 3, none⟩ u).frozen? ⟨B, 3, none⟩ = W.frozen? ⟨B, 3, none⟩).trans f3
  · simpa using sz

end Go.Proofs.YtbdichmkgcngbaaGreat
namespace Go.Proofs.YtbdichmkgcngbaaGreat
set_option linter.unusedVariables false
set_option linter.unusedSimpArgs false
open Go.RowKit

/-- a value that lies in a block of its own. -/
def VAt (w : World) (B : Nat) (v : Vl) : Prop := w.cell? ⟨B, 0, none⟩ = some (.bool v.ok) ∧ w.cell? ⟨B, 1, none⟩ = some (.int .i64 v.n) ∧ B < w.heap.size
theorem VAt.gr {w w' : World} {B : Nat} {v : Vl} (h : VAt w B v) (g : Gr w w') : VAt w' B v :=
  ⟨(g.cell (p := ⟨B, 0, none⟩) h.2.2).trans h.1, (g.cell (p := ⟨B, 1, none⟩) h.2.2).trans h.2.1, Nat.lt_of_lt_of_le h.2.2 g.size⟩
/-- a function's row that lies in a block of its own. -/
def FAt (w : World) (B : Nat) (r : Fr) : Prop := w.cell? ⟨B, 0, none⟩ = some (.string r.nm) ∧ w.cell? ⟨B, 1, none⟩ = some (.int .i64 r.kind) ∧ w.cell? ⟨B, 2, none⟩ = some (.int .i64 r.by_) ∧ w.cell? ⟨B, 3, none⟩ = some (.bool r.least) ∧ B < w.heap.size
theorem FAt.gr {w w' : World} {B : Nat} {r : Fr} (h : FAt w B r) (g : Gr w w') : FAt w' B r :=
  ⟨(g.cell (p := ⟨B, 0, none⟩) h.2.2.2.2).trans h.1, (g.cell (p := ⟨B, 1, none⟩) h.2.2.2.2).trans h.2.1, (g.cell (p := ⟨B, 2, none⟩) h.2.2.2.2).trans h.2.2.1, (g.cell (p := ⟨B, 3, none⟩) h.2.2.2.2).trans h.2.2.2.1, Nat.lt_of_lt_of_le h.2.2.2.2 g.size⟩

set_option maxRecDepth 100000 in
set_option maxHeartbeats 3200000 in
theorem above_any (K R : Nat) (k : Vl) (r : Fr) (x : Sq) (w : World) (hK : VAt w K k) (hR : FAt w R r) (hl : x.s.vals.length ≤ 1000000) (hv : Rv w x.A x.s.vals) :
    Calls Tryz.prog 60 #[.agg #[.string x.s.name, .int .i64 x.s.start, .int .i64 x.s.step, .slice x.A x.s.vals.length x.c, .int .i64 x.s.cons], .pointer (some ⟨K, 0, none⟩), .pointer (some ⟨R, 0, none⟩)] w fun e w' => e = .returned (.bool (lessB k (ofR r.by_ x.s.vals))) ∧ Gr w w' := by
  have gw : Gr w (w.alloc (.cells #[.string x.s.name, .int .i64 x.s.start, .int .i64 x.s.step, .slice x.A x.s.vals.length x.c, .int .i64 x.s.cons] 30)) := Gr.alloc (Gr.refl _) _
  have HF : Hid (∀ W, Gr (w.alloc (.cells #[.string x.s.name, .int .i64 x.s.start, .int .i64 x.s.step, .slice x.A x.s.vals.length x.c, .int .i64 x.s.cons] 30)) W → W.cell? ⟨K, 0, none⟩ = some (.bool k.ok) ∧ W.cell? ⟨K, 1, none⟩ = some (.int .i64 k.n) ∧ W.cell? ⟨R, 0, none⟩ = some (.string r.nm) ∧ W.cell? ⟨R, 1, none⟩ = some (.int .i64 r.kind) ∧ W.cell? ⟨R, 2, none⟩ = some (.int .i64 r.by_) ∧ W.cell? ⟨R, 3, none⟩ = some (.bool r.least) ∧ W.cell? ⟨w.heap.size, 0, none⟩ = some (.string x.s.name) ∧ W.cell? ⟨w.heap.size, 1, none⟩ = some (.int .i64 x.s.start) ∧ W.cell? ⟨w.heap.size, 2, none⟩ = some (.int .i64 x.s.step) ∧ W.cell? ⟨w.heap.size, 3, none⟩ = some (.slice x.A x.s.vals.length x.c) ∧ W.cell? ⟨w.heap.size, 4, none⟩ = some (.int .i64 x.s.cons)) := Lib.hid (fun W hW => by
    have h1 := (hK.gr gw).gr hW
    have h2 := (hR.gr gw).gr hW
    refine ⟨h1.1, h1.2.1, h2.1, h2.2.1, h2.2.2.1, h2.2.2.2.1, ?_, ?_, ?_, ?_, ?_⟩
    · exact (hW.cell (p := ⟨w.heap.size, 0, none⟩) (by simp)).trans (by go_simp)
    · exact (hW.cell (p := ⟨w.heap.size, 1, none⟩) (by simp)).trans (by go_simp)
    · exact (hW.cell (p := ⟨w.heap.size, 2, none⟩) (by simp)).trans (by go_simp)
    · exact (hW.cell (p := ⟨w.heap.size, 3, none⟩) (by simp)).trans (by go_simp)
    · exact (hW.cell (p := ⟨w.heap.size, 4, none⟩) (by simp)).trans (by go_simp))
  clear hK hR
  go_enter Tryz.func60, Tryz.ntmps60
  go_wp2
  refine region_Q (by kernel_rfl) (by kernel_rfl) ?_
  refine q_val (v := ?qv1) (by rfl) (fun W hW => ?qh1) ?qr1
  case qh1 =>
    obtain ⟨k0, k1, r0, r1, r2, r3, b0, b1, b2, b3, b4⟩ := HF.out W hW
    go_simp
    rfl
  simp only [Act.put, List.setIfInBounds_toArray, List.set_cons_zero, List.set_cons_succ]
  refine q_val (v := ?qv2) (by rfl) (fun W hW => ?qh2) ?qr2
  case qh2 =>
    obtain ⟨k0, k1, r0, r1, r2, r3, b0, b1, b2, b3, b4⟩ := HF.out W hW
    go_simp
    rfl
  simp only [Act.put, List.setIfInBounds_toArray, List.set_cons_zero, List.set_cons_succ]
  refine q_val (v := ?qv3) (by rfl) (fun W hW => ?qh3) ?qr3
  case qh3 =>
    obtain ⟨k0, k1, r0, r1, r2, r3, b0, b1, b2, b3, b4⟩ := HF.out W hW
    go_simp
    rfl
  simp only [Act.put, List.setIfInBounds_toArray, List.set_cons_zero, List.set_cons_succ]
  refine q_call (v := .agg #[.bool (ofR r.by_ x.s.vals).ok, .int .i64 (ofR r.by_ x.s.vals).n]) (f := ?qf4) (args := ?qa4) (by rfl) (fun W hW => ?qh4) (fun W hW => ?qc4) ?qr4
  case qh4 =>
    go_simp
    constructor
    · rfl
    · rfl
  case qc4 => exact (rowof_any r x.s x.A x.c W hl ((hv.gr gw).gr hW)).mono (fun e w' h => ⟨h.1, Gr.trans hW h.2⟩)
  simp only [Act.put, List.setIfInBounds_toArray, List.set_cons_zero, List.set_cons_succ]
  refine q_call (v := .bool (lessB k (ofR r.by_ x.s.vals))) (f := ?qf5) (args := ?qa5) (by rfl) (fun W hW => ?qh5) (fun W hW => ?qc5) ?qr5
  case qh5 =>
    go_simp
    constructor
    · rfl
    · rfl
  case qc5 => exact (less_any k (ofR r.by_ x.s.vals) W).mono (fun e w' h => ⟨h.1, Gr.trans hW h.2⟩)
  simp only [Act.put, List.setIfInBounds_toArray, List.set_cons_zero, List.set_cons_succ]
  refine q_val (v := ?qv6) (by rfl) (fun W hW => ?qh6) ?qr6
  case qh6 =>
    go_simp
    rfl
  simp only [Act.put, List.setIfInBounds_toArray, List.set_cons_zero, List.set_cons_succ]
  refine wpQuiet_nil ?_
  intro w6 hg6
  have gw6 := Gr.trans gw hg6
  clear HF gw hg6
  go_wp2
  go_ret
  exact ⟨rfl, gw6⟩

def belowB (k v : Vl) : Bool := v.ok && (k.ok && decide (v.n ≤ k.n))
set_option maxRecDepth 100000 in
set_option maxHeartbeats 3200000 in
theorem below_any (K R : Nat) (k : Vl) (r : Fr) (x : Sq) (w : World) (hK : VAt w K k) (hR : FAt w R r) (hl : x.s.vals.length ≤ 1000000) (hv : Rv w x.A x.s.vals) :
    Calls Tryz.prog 63 #[.agg #[.string x.s.name, .int .i64 x.s.start, .int .i64 x.s.step, .slice x.A x.s.vals.length x.c, .int .i64 x.s.cons], .pointer (some ⟨R, 0, none⟩), .pointer (some ⟨K, 0, none⟩)] w fun e w' => e = .returned (.bool (belowB k (ofR r.by_ x.s.vals))) ∧ Gr w w' := by
  have Q := fun w hr => rowof_any r x.s x.A x.c w hl hr
  unfold aggFr aggSr at Q
  obtain ⟨v, hv0⟩ : ∃ v, ofR r.by_ x.s.vals = v := ⟨_, rfl⟩
  rw [hv0] at Q ⊢
  clear hv0
  have hk0 := hK.2.2
  have hr0 := hR.2.2.2.2
  obtain ⟨r0, r1, r2, r3, _⟩ := id hR
  obtain ⟨ok, n⟩ := v
  obtain ⟨ko, kn⟩ := k
  go_enter Tryz.func63, Tryz.ntmps63
  go_wp2_with fail
  refine (Q _ ?hr2).mono ?_
  case hr2 => exact hv.gr (by repeat (first | exact Gr.refl _ | refine Gr.alloc ?_ _ | refine Gr.drew ?_ | refine Gr.setCell ?_ (by first | (simp; done) | (simp; omega) | omega) _ | refine Gr.trans ?_ (by assumption)))
  rintro e w1 ⟨rfl, hg⟩
  have gw : Gr w w1 := (by repeat (first | exact Gr.refl _ | refine Gr.alloc ?_ _ | refine Gr.drew ?_ | refine Gr.setCell ?_ (by first | (simp; done) | (simp; omega) | omega) _ | refine Gr.trans ?_ (by assumption)))
  have h1 := hK.gr gw
  obtain ⟨k0, k1, k2⟩ := id h1
  simp only at k0 k1
  clear hK hR r0 r1 r2 r3 hg h1
  cases ok <;> cases ko
  case true.true =>
    by_cases hle : n ≤ kn
    · go_wp2
      go_ret
      exact ⟨by simp [belowB, hle], (by repeat (first | exact Gr.refl _ | refine Gr.alloc ?_ _ | refine Gr.drew ?_ | refine Gr.setCell ?_ (by first | (simp; done) | (simp; omega) | omega) _ | refine Gr.trans ?_ (by assumption)))⟩
    · go_wp2
      go_ret
      exact ⟨by simp [belowB, hle], (by repeat (first | exact Gr.refl _ | refine Gr.alloc ?_ _ | refine Gr.drew ?_ | refine Gr.setCell ?_ (by first | (simp; done) | (simp; omega) | omega) _ | refine Gr.trans ?_ (by assumption)))⟩
  all_goals
    go_wp2
    go_ret
    exact ⟨by simp [belowB], (by repeat (first | exact Gr.refl _ | refine Gr.alloc ?_ _ | refine Gr.drew ?_ | refine Gr.setCell ?_ (by first | (simp; done) | (simp; omega) | omega) _ | refine Gr.trans ?_ (by assumption)))⟩

set_option maxRecDepth 100000 in
set_option maxHeartbeats 3200000 in
theorem keepsk_any (x : Sq) (w : World) (hl : x.s.vals.length ≤ 1000000) (hv : Rv w x.A x.s.vals) :
    Calls Tryz.prog 64 #[.agg #[.string x.s.name, .int .i64 x.s.start, .int .i64 x.s.step, .slice x.A x.s.vals.length x.c, .int .i64 x.s.cons]] w fun e w' => e = .returned (.bool (!(kn x.s.vals).isEmpty)) ∧ Gr w w' := by
  have Q := fun w hr => known_vals_any x.A x.c x.s.vals w hl hr
  generalize kn x.s.vals = K at Q ⊢
  go_enter Tryz.func64, Tryz.ntmps64
  go_wp2_with fail
  refine (Q _ ?hr2).mono ?_
  case hr2 => exact hv.gr (by repeat (first | exact Gr.refl _ | refine Gr.alloc ?_ _ | refine Gr.drew ?_ | refine Gr.setCell ?_ (by first | (simp; done) | (simp; omega) | omega) _ | refine Gr.trans ?_ (by assumption)))
  rintro e w1 ⟨A1, c1, rfl, hrv, hg⟩
  have gw : Gr w w1 := (by repeat (first | exact Gr.refl _ | refine Gr.alloc ?_ _ | refine Gr.drew ?_ | refine Gr.setCell ?_ (by first | (simp; done) | (simp; omega) | omega) _ | refine Gr.trans ?_ (by assumption)))
  cases K with
  | nil =>
    clear hrv hg
    go_wp2
    go_ret
    exact ⟨rfl, gw⟩
  | cons y K =>
    have hp : (0 : Int) < ((y :: K).length : Int) := by simp only [List.length_cons]; omega
    have hd : decide (0 < (y :: K).length) = true := rfl
    generalize (y :: K).length = n at hp hd ⊢
    clear hrv hg
    go_wp2
    go_ret
    exact ⟨rfl, gw⟩

set_option maxRecDepth 100000 in
set_option maxHeartbeats 3200000 in
theorem thosek_any (p : Sq → Bool) (A : Option Addr) (c : Nat) (L : List Sq) (w : World) (hl : L.length ≤ 1000000) (hr : Rl w A L)
    (hQ : ∀ x ∈ L, ∀ W, Gr w W → Calls Tryz.prog 64 #[.agg #[.string x.s.name, .int .i64 x.s.start, .int .i64 x.s.step, .slice x.A x.s.vals.length x.c, .int .i64 x.s.cons]] W fun e w' => e = .returned (.bool (p x)) ∧ Gr W w') :
    Calls Tryz.prog 31 #[.slice A L.length c, .func (.func 64) #[] #[]] w (RetL (L.filter p) w) := by
  obtain ⟨i0, hi0, hz0, hz1, hz2⟩ := info_parts info_ser
  have hl' : (L.length : Int) ≤ 1000000 := by omega
  have HQ := Lib.hid hQ
  clear hQ
  go_enter Tryz.func31, Tryz.ntmps31
  go_wp2
  go_loopw [5, 10] (fun v i wr => ∃ (k : Nat) (M : List Sq), k ≤ L.length ∧ i = .int .i64 k ∧ Gr w wr ∧ wr.ownsRow w.heap.size 30 5 v M.length (scells M) ∧ M.length ≤ k ∧ Hid (M = (L.take k).filter p)) (fun _ i _ => L.length - (intOf i).toNat)
  case atStart => exact ⟨0, [], Nat.zero_le _, rfl, Gr.refl _, World.ownsRow_nil _ _ _ _, Nat.le_refl _, Lib.hid rfl⟩
  case round =>
    obtain ⟨k, M, hk, rfl, hgr, hown, hMk, HM⟩ := hrel
    by_cases hlt : k < L.length
    · obtain ⟨x, hx⟩ : ∃ x, L[k] = x := ⟨_, rfl⟩
      obtain ⟨ad, rfl, hb, hx0, hx1, hx2, hx3, hx4⟩ := (hr.gr hgr).at hlt
      rw [hx] at hx0 hx1 hx2 hx3 hx4
      have HT : Hid ((L.take (k + 1)).filter p = M ++ [x].filter p) := Lib.hid (by rw [List.take_succ_eq_append_getElem hlt, List.filter_append, HM.out, hx])
      have Q := HQ.out x (by rw [← hx]; exact List.getElem_mem hlt)
      clear hx HM
      cases hp : p x
      · have HT2 : Hid (M = (L.take (k + 1)).filter p) := Lib.hid (by rw [HT.out]; simp [hp])
        simp only [hp] at Q
        clear HT hp
        go_wp2_with fail
        refine (Q _ (Gr.alloc hgr _)).mono ?_; rintro e w5 ⟨rfl, hg⟩
        have gw5 := Gr.trans (Gr.alloc hgr _) hg
        have hown5 := own_gr hown (Gr.trans (Gr.alloc (Gr.refl wr) _) hg)
        clear hx0 hx1 hx2 hx3 hx4 hg hown
        go_wp2
        go_roundw
        case rel => exact ⟨k + 1, M, by omega, by go_num, gw5, hown5, by omega, HT2⟩
        case measure => simp [intOf]; omega
      · have HT2 : Hid (M ++ [x] = (L.take (k + 1)).filter p) := Lib.hid (by rw [HT.out]; simp [hp])
        simp only [hp] at Q
        clear HT hp
        go_wp2_with fail
        refine (Q _ (Gr.alloc hgr _)).mono ?_; rintro e w5 ⟨rfl, hg⟩
        have hbox := Gr.trans (Gr.alloc (Gr.refl wr) _) hg
        have gw5 := Gr.trans hgr hbox
        have hown5 := own_gr hown hbox
        have q0 : w5.cell? ⟨wr.heap.size, 0, none⟩ = some (.string x.s.name) := (hg.cell (p := ⟨wr.heap.size, 0, none⟩) (by simp)).trans (by go_simp)
        have q1 : w5.cell? ⟨wr.heap.size, 1, none⟩ = some (.int .i64 x.s.start) := (hg.cell (p := ⟨wr.heap.size, 1, none⟩) (by simp)).trans (by go_simp)
        have q2 : w5.cell? ⟨wr.heap.size, 2, none⟩ = some (.int .i64 x.s.step) := (hg.cell (p := ⟨wr.heap.size, 2, none⟩) (by simp)).trans (by go_simp)
        have q3 : w5.cell? ⟨wr.heap.size, 3, none⟩ = some (.slice x.A x.s.vals.length x.c) := (hg.cell (p := ⟨wr.heap.size, 3, none⟩) (by simp)).trans (by go_simp)
        have q4 : w5.cell? ⟨wr.heap.size, 4, none⟩ = some (.int .i64 x.s.cons) := (hg.cell (p := ⟨wr.heap.size, 4, none⟩) (by simp)).trans (by go_simp)
        have zz : wr.heap.size < w5.heap.size := by have := hg.size; simp at this; omega
        have hrx := Rl.new (W := w5) rfl 30 [x]
        have hv0 := hown5.alloc (.cells (scells [x]).toArray 30)
        have hvl := hown5.lt
        have z5 := gw5.size
        clear hg hx0 hx1 hx2 hx3 hx4 hown hbox
        go_wp2_with
          (at_builtin
           refine wpList_append_rd rfl (.tmp 17) (.tmp 19) 24 rfl w.heap.size 30 i0 _ 5 64 Tryz.underlying24 hi0 hz0 hz1 hz2 rfl (by decide) _ M.length _ rfl hv0 (some ⟨w5.heap.size, 0, none⟩) 1 _ (scells [x]) rfl hrx (scells_one _) (by unfold maxLen; omega) (by omega) (by simp; omega) ?_
           intro v' w7 hown7 hgr7 hat7)
        have hg7 : Gr w w7 := Gr.grown (Gr.alloc gw5 _) hgr7 (fun j hj => (hvl j hj).1)
        have hown8 : w7.ownsRow w.heap.size 30 5 v' (M ++ [x]).length (scells (M ++ [x])) := by rw [scells_append, List.length_append]; exact hown7
        clear hv0 hvl hgr7 hat7 hrx hown5 hown7 q0 q1 q2 q3 q4
        go_roundw
        case rel => exact ⟨k + 1, M ++ [x], by omega, by go_num, hg7, hown8, by simp; omega, HT2⟩
        case measure => simp [intOf]; omega
    · have hkk : k = L.length := by omega
      subst hkk
      obtain ⟨A', c', hvv⟩ := own_form hown
      subst hvv
      have hcap := own_cap hown
      have hRl : Rl wr A' M := Rd.own hown
      have HM2 : Hid (M = L.filter p) := Lib.hid (by rw [HM.out, List.take_length])
      clear HM hown
      go_wp2
      go_ret
      exact ⟨A', c', ret_slice (congrArg List.length HM2.out), by rw [← HM2.out]; exact hcap, by rw [← HM2.out]; exact hRl, hgr⟩

set_option maxRecDepth 100000 in
set_option maxHeartbeats 3200000 in
theorem thosea_any (c0 c1 : Value) (p : Sq → Bool) (A : Option Addr) (c : Nat) (L : List Sq) (w : World) (hl : L.length ≤ 1000000) (hr : Rl w A L)
    (hQ : ∀ x ∈ L, ∀ W, Gr w W → Calls Tryz.prog 60 #[.agg #[.string x.s.name, .int .i64 x.s.start, .int .i64 x.s.step, .slice x.A x.s.vals.length x.c, .int .i64 x.s.cons], c0, c1] W fun e w' => e = .returned (.bool (p x)) ∧ Gr W w') :
    Calls Tryz.prog 31 #[.slice A L.length c, .func (.func 60) #[] #[c0, c1]] w (RetL (L.filter p) w) := by
  obtain ⟨i0, hi0, hz0, hz1, hz2⟩ := info_parts info_ser
  have hl' : (L.length : Int) ≤ 1000000 := by omega
  have HQ := Lib.hid hQ
  clear hQ
  go_enter Tryz.func31, Tryz.ntmps31
  go_wp2
  go_loopw [5, 10] (fun v i wr => ∃ (k : Nat) (M : List Sq), k ≤ L.length ∧ i = .int .i64 k ∧ Gr w wr ∧ wr.ownsRow w.heap.size 30 5 v M.length (scells M) ∧ M.length ≤ k ∧ Hid (M = (L.take k).filter p)) (fun _ i _ => L.length - (intOf i).toNat)
  case atStart => exact ⟨0, [], Nat.zero_le _, rfl, Gr.refl _, World.ownsRow_nil _ _ _ _, Nat.le_refl _, Lib.hid rfl⟩
  case round =>
    obtain ⟨k, M, hk, rfl, hgr, hown, hMk, HM⟩ := hrel
    by_cases hlt : k < L.length
    · obtain ⟨x, hx⟩ : ∃ x, L[k] = x := ⟨_, rfl⟩
      obtain ⟨ad, rfl, hb, hx0, hx1, hx2, hx3, hx4⟩ := (hr.gr hgr).at hlt
      rw [hx] at hx0 hx1 hx2 hx3 hx4
      have HT : Hid ((L.take (k + 1)).filter p = M ++ [x].filter p) := Lib.hid (by rw [List.take_succ_eq_append_getElem hlt, List.filter_append, HM.out, hx])
      have Q := HQ.out x (by rw [← hx]; exact List.getElem_mem hlt)
      clear hx HM
      cases hp : p x
      · have HT2 : Hid (M = (L.take (k + 1)).filter p) := Lib.hid (by rw [HT.out]; simp [hp])
        simp only [hp] at Q
        clear HT hp
        go_wp2_with fail
        refine (Q _ (Gr.alloc hgr _)).mono ?_; rintro e w5 ⟨rfl, hg⟩
        have gw5 := Gr.trans (Gr.alloc hgr _) hg
        have hown5 := own_gr hown (Gr.trans (Gr.alloc (Gr.refl wr) _) hg)
        clear hx0 hx1 hx2 hx3 hx4 hg hown
        go_wp2
        go_roundw
        case rel => exact ⟨k + 1, M, by omega, by go_num, gw5, hown5, by omega, HT2⟩
        case measure => simp [intOf]; omega
      · have HT2 : Hid (M ++ [x] = (L.take (k + 1)).filter p) := Lib.hid (by rw [HT.out]; simp [hp])
        simp only [hp] at Q
        clear HT hp
        go_wp2_with fail
        refine (Q _ (Gr.alloc hgr _)).mono ?_; rintro e w5 ⟨rfl, hg⟩
        have hbox := Gr.trans (Gr.alloc (Gr.refl wr) _) hg
        have gw5 := Gr.trans hgr hbox
        have hown5 := own_gr hown hbox
        have q0 : w5.cell? ⟨wr.heap.size, 0, none⟩ = some (.string x.s.name) := (hg.cell (p := ⟨wr.heap.size, 0, none⟩) (by simp)).trans (by go_simp)
        have q1 : w5.cell? ⟨wr.heap.size, 1, none⟩ = some (.int .i64 x.s.start) := (hg.cell (p := ⟨wr.heap.size, 1, none⟩) (by simp)).trans (by go_simp)
        have q2 : w5.cell? ⟨wr.heap.size, 2, none⟩ = some (.int .i64 x.s.step) := (hg.cell (p := ⟨wr.heap.size, 2, none⟩) (by simp)).trans (by go_simp)
        have q3 : w5.cell? ⟨wr.heap.size, 3, none⟩ = some (.slice x.A x.s.vals.length x.c) := (hg.cell (p := ⟨wr.heap.size, 3, none⟩) (by simp)).trans (by go_simp)
        have q4 : w5.cell? ⟨wr.heap.size, 4, none⟩ = some (.int .i64 x.s.cons) := (hg.cell (p := ⟨wr.heap.size, 4, none⟩) (by simp)).trans (by go_simp)
        have zz : wr.heap.size < w5.heap.size := by have := hg.size; simp at this; omega
        have hrx := Rl.new (W := w5) rfl 30 [x]
        have hv0 := hown5.alloc (.cells (scells [x]).toArray 30)
        have hvl := hown5.lt
        have z5 := gw5.size
        clear hg hx0 hx1 hx2 hx3 hx4 hown hbox
        go_wp2_with
          (at_builtin
           refine wpList_append_rd rfl (.tmp 17) (.tmp 19) 24 rfl w.heap.size 30 i0 _ 5 64 Tryz.underlying24 hi0 hz0 hz1 hz2 rfl (by decide) _ M.length _ rfl hv0 (some ⟨w5.heap.size, 0, none⟩) 1 _ (scells [x]) rfl hrx (scells_one _) (by unfold maxLen; omega) (by omega) (by simp; omega) ?_
           intro v' w7 hown7 hgr7 hat7)
        have hg7 : Gr w w7 := Gr.grown (Gr.alloc gw5 _) hgr7 (fun j hj => (hvl j hj).1)
        have hown8 : w7.ownsRow w.heap.size 30 5 v' (M ++ [x]).length (scells (M ++ [x])) := by rw [scells_append, List.length_append]; exact hown7
        clear hv0 hvl hgr7 hat7 hrx hown5 hown7 q0 q1 q2 q3 q4
        go_roundw
        case rel => exact ⟨k + 1, M ++ [x], by omega, by go_num, hg7, hown8, by simp; omega, HT2⟩
        case measure => simp [intOf]; omega
    · have hkk : k = L.length := by omega
      subst hkk
      obtain ⟨A', c', hvv⟩ := own_form hown
      subst hvv
      have hcap := own_cap hown
      have hRl : Rl wr A' M := Rd.own hown
      have HM2 : Hid (M = L.filter p) := Lib.hid (by rw [HM.out, List.take_length])
      clear HM hown
      go_wp2
      go_ret
      exact ⟨A', c', ret_slice (congrArg List.length HM2.out), by rw [← HM2.out]; exact hcap, by rw [← HM2.out]; exact hRl, hgr⟩

set_option maxRecDepth 100000 in
set_option maxHeartbeats 3200000 in
theorem thoseb_any (c0 c1 : Value) (p : Sq → Bool) (A : Option Addr) (c : Nat) (L : List Sq) (w : World) (hl : L.length ≤ 1000000) (hr : Rl w A L)
    (hQ : ∀ x ∈ L, ∀ W, Gr w W → Calls Tryz.prog 63 #[.agg #[.string x.s.name, .int .i64 x.s.start, .int .i64 x.s.step, .slice x.A x.s.vals.length x.c, .int .i64 x.s.cons], c0, c1] W fun e w' => e = .returned (.bool (p x)) ∧ Gr W w') :
    Calls Tryz.prog 31 #[.slice A L.length c, .func (.func 63) #[] #[c0, c1]] w (RetL (L.filter p) w) := by
  obtain ⟨i0, hi0, hz0, hz1, hz2⟩ := info_parts info_ser
  have hl' : (L.length : Int) ≤ 1000000 := by omega
  have HQ := Lib.hid hQ
  clear hQ
  go_enter Tryz.func31, Tryz.ntmps31
  go_wp2
  go_loopw [5, 10] (fun v i wr => ∃ (k : Nat) (M : List Sq), k ≤ L.length ∧ i = .int .i64 k ∧ Gr w wr ∧ wr.ownsRow w.heap.size 30 5 v M.length (scells M) ∧ M.length ≤ k ∧ Hid (M = (L.take k).filter p)) (fun _ i _ => L.length - (intOf i).toNat)
  case atStart => exact ⟨0, [], Nat.zero_le _, rfl, Gr.refl _, World.ownsRow_nil _ _ _ _, Nat.le_refl _, Lib.hid rfl⟩
  case round =>
    obtain ⟨k, M, hk, rfl, hgr, hown, hMk, HM⟩ := hrel
    by_cases hlt : k < L.length
    · obtain ⟨x, hx⟩ : ∃ x, L[k] = x := ⟨_, rfl⟩
      obtain ⟨ad, rfl, hb, hx0, hx1, hx2, hx3, hx4⟩ := (hr.gr hgr).at hlt
      rw [hx] at hx0 hx1 hx2 hx3 hx4
      have HT : Hid ((L.take (k + 1)).filter p = M ++ [x].filter p) := Lib.hid (by rw [List.take_succ_eq_append_getElem hlt, List.filter_append, HM.out, hx])
      have Q := HQ.out x (by rw [← hx]; exact List.getElem_mem hlt)
      clear hx HM
      cases hp : p x
      · have HT2 : Hid (M = (L.take (k + 1)).filter p) := Lib.hid (by rw [HT.out]; simp [hp])
        simp only [hp] at Q
        clear HT hp
        go_wp2_with fail
        refine (Q _ (Gr.alloc hgr _)).mono ?_; rintro e w5 ⟨rfl, hg⟩
        have gw5 := Gr.trans (Gr.alloc hgr _) hg
        have hown5 := own_gr hown (Gr.trans (Gr.alloc (Gr.refl wr) _) hg)
        clear hx0 hx1 hx2 hx3 hx4 hg hown
        go_wp2
        go_roundw
        case rel => exact ⟨k + 1, M, by omega, by go_num, gw5, hown5, by omega, HT2⟩
        case measure => simp [intOf]; omega
      · have HT2 : Hid (M ++ [x] = (L.take (k + 1)).filter p) := Lib.hid (by rw [HT.out]; simp [hp])
        simp only [hp] at Q
        clear HT hp
        go_wp2_with fail
        refine (Q _ (Gr.alloc hgr _)).mono ?_; rintro e w5 ⟨rfl, hg⟩
        have hbox := Gr.trans (Gr.alloc (Gr.refl wr) _) hg
        have gw5 := Gr.trans hgr hbox
        have hown5 := own_gr hown hbox
        have q0 : w5.cell? ⟨wr.heap.size, 0, none⟩ = some (.string x.s.name) := (hg.cell (p := ⟨wr.heap.size, 0, none⟩) (by simp)).trans (by go_simp)
        have q1 : w5.cell? ⟨wr.heap.size, 1, none⟩ = some (.int .i64 x.s.start) := (hg.cell (p := ⟨wr.heap.size, 1, none⟩) (by simp)).trans (by go_simp)
        have q2 : w5.cell? ⟨wr.heap.size, 2, none⟩ = some (.int .i64 x.s.step) := (hg.cell (p := ⟨wr.heap.size, 2, none⟩) (by simp)).trans (by go_simp)
        have q3 : w5.cell? ⟨wr.heap.size, 3, none⟩ = some (.slice x.A x.s.vals.length x.c) := (hg.cell (p := ⟨wr.heap.size, 3, none⟩) (by simp)).trans (by go_simp)
        have q4 : w5.cell? ⟨wr.heap.size, 4, none⟩ = some (.int .i64 x.s.cons) := (hg.cell (p := ⟨wr.heap.size, 4, none⟩) (by simp)).trans (by go_simp)
        have zz : wr.heap.size < w5.heap.size := by have := hg.size; simp at this; omega
        have hrx := Rl.new (W := w5) rfl 30 [x]
        have hv0 := hown5.alloc (.cells (scells [x]).toArray 30)
        have hvl := hown5.lt
        have z5 := gw5.size
        clear hg hx0 hx1 hx2 hx3 hx4 hown hbox
        go_wp2_with
          (at_builtin
           refine wpList_append_rd rfl (.tmp 17) (.tmp 19) 24 rfl w.heap.size 30 i0 _ 5 64 Tryz.underlying24 hi0 hz0 hz1 hz2 rfl (by decide) _ M.length _ rfl hv0 (some ⟨w5.heap.size, 0, none⟩) 1 _ (scells [x]) rfl hrx (scells_one _) (by unfold maxLen; omega) (by omega) (by simp; omega) ?_
           intro v' w7 hown7 hgr7 hat7)
        have hg7 : Gr w w7 := Gr.grown (Gr.alloc gw5 _) hgr7 (fun j hj => (hvl j hj).1)
        have hown8 : w7.ownsRow w.heap.size 30 5 v' (M ++ [x]).length (scells (M ++ [x])) := by rw [scells_append, List.length_append]; exact hown7
        clear hv0 hvl hgr7 hat7 hrx hown5 hown7 q0 q1 q2 q3 q4
        go_roundw
        case rel => exact ⟨k + 1, M ++ [x], by omega, by go_num, hg7, hown8, by simp; omega, HT2⟩
        case measure => simp [intOf]; omega
    · have hkk : k = L.length := by omega
      subst hkk
      obtain ⟨A', c', hvv⟩ := own_form hown
      subst hvv
      have hcap := own_cap hown
      have hRl : Rl wr A' M := Rd.own hown
      have HM2 : Hid (M = L.filter p) := Lib.hid (by rw [HM.out, List.take_length])
      clear HM hown
      go_wp2
      go_ret
      exact ⟨A', c', ret_slice (congrArg List.length HM2.out), by rw [← HM2.out]; exact hcap, by rw [← HM2.out]; exact hRl, hgr⟩
end Go.Proofs.YtbdichmkgcngbaaGreat
