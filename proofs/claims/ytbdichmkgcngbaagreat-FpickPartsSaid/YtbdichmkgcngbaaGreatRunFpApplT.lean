/- Apply of the program, whatever is asked: what is picked, the error. No walk. · What FpickParts says, plain: what is found and what is not are all; so are those above, those not above, those that have none. No walk. · Contracts of heavy, same, all, known of chapter 23's laws. -/
import Derived.Test.YtbdichmkgcngbaaGreatFpFinds
import Derived.Test.YtbdichmkgcngbaaGreatFpApply
import Derived.Test.YtbdichmkgcngbaaGreatRunSrIs
import Derived.Test.YtbdichmkgcngbaaGreatRunFpFirst
import Derived.Deep.Cut
import Derived.Deep.CutRange
namespace Go.Proofs.YtbdichmkgcngbaaGreat
set_option linter.unusedVariables false
set_option linter.unusedSimpArgs false
open Go.RowKit

def applyTE (nm text : ByteArray) (S : List Sr) : Int := if (findF nm).isSome = true then (if S.all isS = true then (if (rowF nm).kind = 0 then errX text.data.toList else 0) else 1) else 9
noncomputable def grepS (nm text : ByteArray) (s : Sr) : Bool := isC (codeY text.data.toList) s.name.data.toList == (nm.toList == [103, 114, 101, 112])
noncomputable def applyTS (nm text : ByteArray) (k : Vl) (S : List Sr) : List Sr := if applyTE nm text S = 0 then (if (rowF nm).kind = 0 then S.filter (grepS nm text) else pickA id (rowF nm) (normV k) S) else []
theorem kinds_all : (rowsL.all fun r => decide (0 ≤ r.kind) && (decide (r.kind ≤ 7) && (r.kind != 0 || (r.nm.data.toList == [101, 120, 99, 108, 117, 100, 101] || r.nm.data.toList == [103, 114, 101, 112])))) = true := by kernel_rfl
theorem kind_ok {nm : ByteArray} (h : (findF nm).isSome = true) : 0 ≤ (rowF nm).kind ∧ (rowF nm).kind ≤ 7 ∧ ((rowF nm).kind = 0 → (nm.toList == [101, 120, 99, 108, 117, 100, 101]) = true ∨ (nm.toList == [103, 114, 101, 112]) = true) := by
 obtain ⟨hm, hn⟩ := rowF_some h
 have h1 := List.all_eq_true.1 kinds_all _ hm
 simp only [Bool.and_eq_true, decide_eq_true_eq, Bool.or_eq_true, bne_iff_ne, ne_eq] at h1
 obtain ⟨h2, h3, h4⟩ := h1
 refine ⟨h2, h3, fun h0 => ?_⟩
 rcases h4 with h4 | h4 | h4
 ·
  exact absurd h0 h4
 ·
  exact .inl (nm_is hn h4)
 ·
  exact .inr (nm_is hn h4)
theorem grep_map (nm text : ByteArray) (L : List Sq) : (L.filter (grepB nm text)).map Sq.s = (L.map Sq.s).filter (grepS nm text) := by
 induction L with
 | nil => rfl
 | cons x L ih =>
  rw [List.map_cons, List.filter_cons, List.filter_cons]
  have e : grepS nm text x.s = grepB nm text x := rfl
  rw [e]
  cases grepB nm text x
  ·
   simpa using ih
  ·
   simp [ih]
theorem applyT_zero {nm text : ByteArray} {k : Vl} {L : List Sq} (hf : (findF nm).isSome = true) (hok : okL L = true) (h0 : (rowF nm).kind = 0) :
  applyTE nm text (L.map Sq.s) = errX text.data.toList ∧ applyTS nm text k (L.map Sq.s) = (bif errX text.data.toList == 0 then L.filter (grepB nm text) else []).map Sq.s := by
 have hE : applyTE nm text (L.map Sq.s) = errX text.data.toList := by unfold applyTE; rw [if_pos hf, okL_s, if_pos hok, if_pos h0]
 refine ⟨hE, ?_⟩
 unfold applyTS
 rw [hE]
 by_cases he : errX text.data.toList = 0
 ·
  rw [if_pos he, if_pos h0, beq_iff_eq.2 he, cond_true, grep_map]
 ·
  rw [if_neg he, beq_eq_false_iff_ne.2 he, cond_false]
  rfl
theorem applyT_more {nm text : ByteArray} {k : Vl} {L : List Sq} (hf : (findF nm).isSome = true) (hok : okL L = true) (h0 : (rowF nm).kind ≠ 0) :
  applyTE nm text (L.map Sq.s) = 0 ∧ applyTS nm text k (L.map Sq.s) = (pickA Sq.s (rowF nm) (normV k) L).map Sq.s := by
 have hE : applyTE nm text (L.map Sq.s) = 0 := by unfold applyTE; rw [if_pos hf, okL_s, if_pos hok, if_neg h0]
 refine ⟨hE, ?_⟩
 unfold applyTS
 rw [hE, if_pos rfl, if_neg h0, pick_s]
theorem applyT_no {nm text : ByteArray} {k : Vl} {S : List Sr} (hf : (findF nm).isSome = false) : applyTE nm text S = 9 ∧ applyTS nm text k S = [] := by
 have hE : applyTE nm text S = 9 := by unfold applyTE; rw [hf]; rfl
 exact ⟨hE, by unfold applyTS; rw [hE]; rfl⟩
theorem applyT_bad {nm text : ByteArray} {k : Vl} {L : List Sq} (hf : (findF nm).isSome = true) (hok : okL L = false) : applyTE nm text (L.map Sq.s) = 1 ∧ applyTS nm text k (L.map Sq.s) = [] := by
 have hE : applyTE nm text (L.map Sq.s) = 1 := by unfold applyTE; rw [if_pos hf, okL_s, hok]; rfl
 exact ⟨hE, by unfold applyTS; rw [hE]; rfl⟩
theorem applyt_any (nm text : ByteArray) (k : Vl) (A : Option Addr) (c : Nat) (L : List Sq) (w : World) (ht : text.size ≤ 500) (hn4 : ∀ x ∈ L, x.s.name.size ≤ 4096) (h20 : L.length ≤ 20) (hcap : L.length ≤ c) (hle : ∀ x ∈ L, x.s.vals.length ≤ 1000000) (hr : Rl w A L) (hv : Lie w L) :
  Calls Tryz.prog 18 #[.string nm, .agg #[.bool k.ok, .int .i64 k.n], .string text, .slice A L.length c] w (RetA (applyTE nm text (L.map Sq.s)) (applyTS nm text k (L.map Sq.s)) w) := by
 cases hf : (findF nm).isSome
 ·
  obtain ⟨e1, e2⟩ := applyT_no (text := text) (k := k) (S := L.map Sq.s) hf
  rw [e1, e2]
  exact apply_no nm text k A c L w hf
 ·
  cases hok : okL L
  ·
   obtain ⟨e1, e2⟩ := applyT_bad (text := text) (k := k) hf hok
   rw [e1, e2]
   exact apply_bad nm text k A c L w hf hok h20 hr hv
  ·
   obtain ⟨g1, g2, g3⟩ := kind_ok hf
   by_cases h0 : (rowF nm).kind = 0
   ·
    obtain ⟨e1, e2⟩ := applyT_zero (text := text) (k := k) hf hok h0
    rw [e1, e2]
    exact finds_any nm text k A c L w hf hok h0 ht hn4 h20 hle hr hv
   ·
    obtain ⟨e1, e2⟩ := applyT_more (text := text) (k := k) hf hok h0
    rw [e1, e2]
    cases hk : isB k
    ·
     exact apply_none nm text k A c L w hf hok hk (by omega) g2 h20 hcap hle hr hv
    ·
     exact apply_yes nm text k A c L w hf hok hk (by omega) g2 h20 hcap hle hr hv
end Go.Proofs.YtbdichmkgcngbaaGreat
namespace Go.Proofs.YtbdichmkgcngbaaGreat
set_option linter.unusedVariables false
set_option linter.unusedSimpArgs false
open Go.RowKit

theorem len_two {α : Type} (p q : α → Bool) (l : List α) (h : ∀ x ∈ l, q x = !p x) : (l.filter p).length + (l.filter q).length = l.length := by
 induction l with
 | nil => rfl
 | cons x l ih =>
  have h1 := ih fun y hy => h y (List.mem_cons_of_mem _ hy)
  have h2 := h x List.mem_cons_self
  rw [List.filter_cons, List.filter_cons, h2]
  cases p x <;> simp <;> omega
theorem len_three {α : Type} (p q r : α → Bool) (l : List α) (h : ∀ x ∈ l, (p x = true ∧ q x = false ∧ r x = false) ∨ (p x = false ∧ q x = true ∧ r x = false) ∨ (p x = false ∧ q x = false ∧ r x = true)) : (l.filter p).length + (l.filter q).length + (l.filter r).length = l.length := by
 induction l with
 | nil => rfl
 | cons x l ih =>
  have h1 := ih fun y hy => h y (List.mem_cons_of_mem _ hy)
  rw [List.filter_cons, List.filter_cons, List.filter_cons]
  rcases h x List.mem_cons_self with ⟨a, b, c⟩ | ⟨a, b, c⟩ | ⟨a, b, c⟩ <;> rw [a, b, c] <;> simp <;> omega
theorem parts_find (text : ByteArray) (k : Vl) (S : List Sr) (hS : S.all isS = true) : applyTE ⟨#[103, 114, 101, 112]⟩ text S = errX text.data.toList ∧ applyTE ⟨#[101, 120, 99, 108, 117, 100, 101]⟩ text S = errX text.data.toList ∧ (errX text.data.toList = 0 → (applyTS ⟨#[103, 114, 101, 112]⟩ text k S).length + (applyTS ⟨#[101, 120, 99, 108, 117, 100, 101]⟩ text k S).length = S.length) := by
 have f1 : (findF ⟨#[103, 114, 101, 112]⟩).isSome = true := by kernel_rfl
 have f2 : (findF ⟨#[101, 120, 99, 108, 117, 100, 101]⟩).isSome = true := by kernel_rfl
 have r1 : (rowF ⟨#[103, 114, 101, 112]⟩).kind = 0 := by kernel_rfl
 have r2 : (rowF ⟨#[101, 120, 99, 108, 117, 100, 101]⟩).kind = 0 := by kernel_rfl
 have e1 : applyTE ⟨#[103, 114, 101, 112]⟩ text S = errX text.data.toList := by unfold applyTE; rw [if_pos f1, if_pos hS, if_pos r1]
 have e2 : applyTE ⟨#[101, 120, 99, 108, 117, 100, 101]⟩ text S = errX text.data.toList := by unfold applyTE; rw [if_pos f2, if_pos hS, if_pos r2]
 refine ⟨e1, e2, fun h0 => ?_⟩
 unfold applyTS
 rw [e1, e2, if_pos h0, if_pos h0, if_pos r1, if_pos r2]
 refine len_two _ _ S fun s _ => ?_
 unfold grepS
 have g1 : (((⟨#[103, 114, 101, 112]⟩ : ByteArray).toList) == [103, 114, 101, 112]) = true := by rw [ByteArray.toList_eq]; rfl
 have g2 : (((⟨#[101, 120, 99, 108, 117, 100, 101]⟩ : ByteArray).toList) == [103, 114, 101, 112]) = false := by rw [ByteArray.toList_eq]; rfl
 rw [g1, g2]
 cases isC (codeY text.data.toList) s.name.data.toList <;> rfl
def partN : List ByteArray := [⟨#[97, 118, 101, 114, 97, 103, 101]⟩, ⟨#[99, 117, 114, 114, 101, 110, 116]⟩, ⟨#[109, 97, 120, 105, 109, 117, 109]⟩, ⟨#[109, 105, 110, 105, 109, 117, 109]⟩]
def partB : List Int := [1, 3, 4, 5]
theorem part_row : ∀ i (h : i < 4), (findF ((partN[i]'h) ++ ⟨#[65, 98, 111, 118, 101]⟩)).isSome = true ∧ (rowF ((partN[i]'h) ++ ⟨#[65, 98, 111, 118, 101]⟩)).kind = 5 ∧ (rowF ((partN[i]'h) ++ ⟨#[65, 98, 111, 118, 101]⟩)).by_ = partB[i]'h ∧ (findF ((partN[i]'h) ++ ⟨#[66, 101, 108, 111, 119]⟩)).isSome = true ∧ (rowF ((partN[i]'h) ++ ⟨#[66, 101, 108, 111, 119]⟩)).kind = 6 ∧ (rowF ((partN[i]'h) ++ ⟨#[66, 101, 108, 111, 119]⟩)).by_ = partB[i]'h ∧ ((partN[i]'h) ++ ⟨#[65, 98, 111, 118, 101]⟩).size ≤ 20 ∧ ((partN[i]'h) ++ ⟨#[66, 101, 108, 111, 119]⟩).size ≤ 20 ∧ (partN[i]'h).size ≤ 7 := by
 intro i h
 rcases i with _ | _ | _ | _ | i
 ·
  exact ⟨by kernel_rfl, by kernel_rfl, by kernel_rfl, by kernel_rfl, by kernel_rfl, by kernel_rfl, Nat.le_of_ble_eq_true rfl, Nat.le_of_ble_eq_true rfl, Nat.le_of_ble_eq_true rfl⟩
 ·
  exact ⟨by kernel_rfl, by kernel_rfl, by kernel_rfl, by kernel_rfl, by kernel_rfl, by kernel_rfl, Nat.le_of_ble_eq_true rfl, Nat.le_of_ble_eq_true rfl, Nat.le_of_ble_eq_true rfl⟩
 ·
  exact ⟨by kernel_rfl, by kernel_rfl, by kernel_rfl, by kernel_rfl, by kernel_rfl, by kernel_rfl, Nat.le_of_ble_eq_true rfl, Nat.le_of_ble_eq_true rfl, Nat.le_of_ble_eq_true rfl⟩
 ·
  exact ⟨by kernel_rfl, by kernel_rfl, by kernel_rfl, by kernel_rfl, by kernel_rfl, by kernel_rfl, Nat.le_of_ble_eq_true rfl, Nat.le_of_ble_eq_true rfl, Nat.le_of_ble_eq_true rfl⟩
 ·
  omega
theorem parts_above {na nb text : ByteArray} {k : Vl} {B : Int} {S : List Sr} (hS : S.all isS = true) (hk : knB k = true) (f1 : (findF na).isSome = true) (k1 : (rowF na).kind = 5) (b1 : (rowF na).by_ = B) (f2 : (findF nb).isSome = true) (k2 : (rowF nb).kind = 6) (b2 : (rowF nb).by_ = B) :
  applyTE na text S = 0 ∧ applyTE nb text S = 0 ∧ (applyTS na text k S).length + (applyTS nb text k S).length + (S.filter fun s => !(ofR (rowF na).by_ s.vals).ok).length = S.length := by
 have e1 : applyTE na text S = 0 := by unfold applyTE; rw [if_pos f1, if_pos hS, if_neg (by omega)]
 have e2 : applyTE nb text S = 0 := by unfold applyTE; rw [if_pos f2, if_pos hS, if_neg (by omega)]
 refine ⟨e1, e2, ?_⟩
 have p1 : applyTS na text k S = S.filter fun s => lessB k (ofR B s.vals) := by
  unfold applyTS pickA
  rw [e1, if_pos rfl, if_neg (by omega), if_neg (by omega), if_neg (by omega), if_neg (by omega), if_neg (by omega), if_pos k1, b1, normV_kn hk]
  rfl
 have p2 : applyTS nb text k S = S.filter fun s => (ofR B s.vals).ok && (k.ok && decide ((ofR B s.vals).n ≤ k.n)) := by
  unfold applyTS pickA
  rw [e2, if_pos rfl, if_neg (by omega), if_neg (by omega), if_neg (by omega), if_neg (by omega), if_neg (by omega), if_neg (by omega), if_pos k2, b2, normV_kn hk]
  rfl
 rw [p1, p2, b1]
 refine len_three _ _ _ S fun s _ => ?_
 have hb := ofR_isB B s.vals
 have hko := knB_ok hk
 generalize ofR B s.vals = v at hb
 obtain ⟨vo, vn⟩ := v
 cases vo
 ·
  right; right
  refine ⟨?_, rfl, rfl⟩
  unfold lessB knB
  simp
 ·
  have hv : knB ⟨true, vn⟩ = true := by unfold knB; rw [hb]; rfl
  by_cases h : k.n < vn
  ·
   left
   refine ⟨?_, ?_, rfl⟩
   ·
    unfold lessB; rw [hk, hv]; simpa using h
   ·
    simp [hko]; omega
  ·
   right; left
   refine ⟨?_, ?_, rfl⟩
   ·
    unfold lessB; rw [hk, hv]; simpa using h
   ·
    simp [hko]; omega
end Go.Proofs.YtbdichmkgcngbaaGreat
namespace Go.Proofs.YtbdichmkgcngbaaGreat
set_option linter.unusedVariables false
set_option linter.unusedSimpArgs false
open Go.RowKit

set_option maxRecDepth 100000 in
set_option maxHeartbeats 3200000 in
theorem heavy23_any (A : Option Addr) (c : Nat) (L : List Sq) (w : World) (hr : Rl w A L) :
  Calls Tryz.prog 15 #[.slice A L.length c] w (RetH L w) := by
 by_cases h20 : (20 : Int) < (L.length : Int)
 ·
  go_enter Tryz.func15, Tryz.ntmps15
  go_wp2
  go_ret
  exact ⟨⟨_, rfl, fun h => by cases h⟩, Gr.refl _⟩
 go_enter Tryz.func15, Tryz.ntmps15
 go_wp2
 go_loopw [3, 4] (fun n i wr => ∃ (k : Nat) (S : Int), k ≤ L.length ∧ i = .int .i64 k ∧ n = .int .i64 S ∧ 0 ≤ S ∧ S ≤ 120 * k ∧ Gr w wr ∧ Hid (∀ j (hj : j < L.length), j < k → (L[j].s.vals.length : Int) ≤ 120 ∧ (L[j].s.name.size : Int) ≤ 300)) (fun _ i _ => L.length - (intOf i).toNat)
 case atStart => exact ⟨0, 0, Nat.zero_le _, rfl, rfl, by omega, by omega, Gr.refl _, Lib.hid (fun j _ h => absurd h (Nat.not_lt_zero _))⟩
 case round =>
  obtain ⟨k, S, hk, rfl, rfl, S0, S1, hgr, hall⟩ := hrel
  by_cases hlt : k < L.length
  ·
   obtain ⟨ad, rfl, hb, c0, c1, c2, c3, c4⟩ := (hr.gr hgr).at hlt
   by_cases h120 : (L[k].s.vals.length : Int) ≤ 120
   ·
    by_cases h300 : (L[k].s.name.size : Int) ≤ 300
    ·
     have Ht := Lib.hid (light_at hlt hall.out h120 h300)
     go_wp2
     go_roundw
     case rel => exact ⟨k + 1, _, by omega, by go_num, rfl, by omega, by omega, hgr, Ht⟩
     case measure => simp [intOf]; omega
    ·
     go_wp2
     go_ret
     exact ⟨⟨_, rfl, fun h => by cases h⟩, hgr⟩
   ·
    go_wp2
    go_ret
    exact ⟨⟨_, rfl, fun h => by cases h⟩, hgr⟩
  ·
   have hkk : k = L.length := by omega
   subst hkk
   have HL : Hid (Light L) := Lib.hid ⟨by omega, fun x hx => by obtain ⟨j, hj, rfl⟩ := List.getElem_of_mem hx; exact hall.out j hj hj⟩
   clear hall
   by_cases h400 : (400 : Int) < S
   ·
    go_wp2
    go_ret
    exact ⟨⟨_, rfl, fun _ => HL.out⟩, hgr⟩
   ·
    go_wp2
    go_ret
    exact ⟨⟨_, rfl, fun _ => HL.out⟩, hgr⟩

set_option maxRecDepth 100000 in
set_option maxHeartbeats 3200000 in
theorem lsame23_any (na nb : ByteArray) (sa sb pa pb ka kb : Int) (l m : List Vl) (A A' : Option Addr) (c c' : Nat) (w : World) (hl : l.length ≤ 1000000) (hm : m.length ≤ 1000000) (hr : Rv w A l) (hr' : Rv w A' m) :
  Calls Tryz.prog 38 #[.agg #[.string na, .int .i64 sa, .int .i64 pa, .slice A l.length c, .int .i64 ka], (.agg #[.string nb, .int .i64 sb, .int .i64 pb, .slice A' m.length c', .int .i64 kb])] w (RetB ((⟨na, sa, pa, l, ka⟩ : Sr) = ⟨nb, sb, pb, m, kb⟩) w) := by
 have hl1 : (l.length : Int) ≤ 1000000 := by omega
 have hm1 : (m.length : Int) ≤ 1000000 := by omega
 go_enter Tryz.func38, Tryz.ntmps38
 go_wp2_with fail
 refine (rsame_any na nb sa sb pa pb ka kb l m A A' c c' _ hl hm ?hr ?hr').mono ?_
 case hr => exact hr.gr (by repeat (first | exact Gr.refl _ | refine Gr.alloc ?_ _ | refine Gr.drew ?_ | refine Gr.setCell ?_ (by first | (simp; done) | (simp; omega) | omega) _ | refine Gr.trans ?_ (by assumption)))
 case hr' => exact hr'.gr (by repeat (first | exact Gr.refl _ | refine Gr.alloc ?_ _ | refine Gr.drew ?_ | refine Gr.setCell ?_ (by first | (simp; done) | (simp; omega) | omega) _ | refine Gr.trans ?_ (by assumption)))
 rintro e w1 ⟨⟨b, rfl, hb⟩, hg⟩
 have Hb := Lib.hid hb; clear hb
 go_wp2
 go_ret
 exact ⟨⟨_, rfl, Hb.out⟩, (by repeat (first | exact Gr.refl _ | refine Gr.alloc ?_ _ | refine Gr.drew ?_ | refine Gr.setCell ?_ (by first | (simp; done) | (simp; omega) | omega) _ | refine Gr.trans ?_ (by assumption)))⟩


theorem same23_self (T : Sr) (A A' : Option Addr) (c c' : Nat) (w : World) (hl : T.vals.length ≤ 1000000) (hr : Rv w A T.vals) (hr' : Rv w A' T.vals) :
  Calls Tryz.prog 38 #[.agg #[.string T.name, .int .i64 T.start, .int .i64 T.step, .slice A T.vals.length c, .int .i64 T.cons], .agg #[.string T.name, .int .i64 T.start, .int .i64 T.step, .slice A' T.vals.length c', .int .i64 T.cons]] w fun e w' => e = .returned (.bool true) ∧ Gr w w' :=
 (lsame23_any T.name T.name T.start T.start T.step T.step T.cons T.cons T.vals T.vals A A' c c' w hl hl hr hr').mono (fun e w' ⟨⟨b, he, hb⟩, hg⟩ => ⟨by rw [he, hb.2 rfl], hg⟩)

set_option maxRecDepth 100000 in
set_option maxHeartbeats 3200000 in
theorem all23_any (A A' : Option Addr) (c c' : Nat) (M N : List Sq) (w : World) (hl : (M.length : Int) ≤ 1000) (hMN : M.map Sq.s = N.map Sq.s) (hle : ∀ x ∈ M, x.s.vals.length ≤ 1000000) (hr : Rl w A M) (hr' : Rl w A' N) (hv : Lie w M) (hv' : Lie w N) :
  Calls Tryz.prog 21 #[.slice A M.length c, .slice A' N.length c'] w fun e w' => e = .returned (.bool true) ∧ Gr w w' := by
 have hlen : N.length = M.length := by have := congrArg List.length hMN; simpa using this.symm
 have HEQ : Hid (∀ k (h : k < M.length) (h2 : k < N.length), N[k].s = M[k].s) := Lib.hid (fun k h h2 => by
  have e1 : (N.map Sq.s)[k]'(by simpa using h2) = (M.map Sq.s)[k]'(by simpa using h) := by simp only [hMN]
  simpa using e1)
 have HL : Hid (∀ k, k < M.length → k < N.length) := Lib.hid (fun k h => by rw [hlen]; exact h)
 rw [hlen]
 clear hlen hMN
 go_enter Tryz.func21, Tryz.ntmps21
 go_wp2
 go_loopw [5] (fun i wr => ∃ k : Nat, k ≤ M.length ∧ i = .int .i64 k ∧ Gr w wr) (fun i _ => M.length - (intOf i).toNat)
 case atStart => exact ⟨0, Nat.zero_le _, rfl, Gr.refl _⟩
 case round =>
  obtain ⟨k, hk, rfl, hgr⟩ := hrel
  by_cases hlt : k < M.length
  ·
   have hlt' := HL.out k hlt
   obtain ⟨ad, rfl, hb, hx0, hx1, hx2, hx3, hx4⟩ := (hr.gr hgr).at hlt
   obtain ⟨ad', rfl, hb', hy0, hy1, hy2, hy3, hy4⟩ := (hr'.gr hgr).at hlt'
   have hs := HEQ.out k hlt hlt'
   have hv1 := hv _ (List.getElem_mem hlt)
   have hv2 := hv' _ (List.getElem_mem hlt')
   have hTl := hle _ (List.getElem_mem hlt)
   obtain ⟨x, hx⟩ : ∃ x, M[k] = x := ⟨_, rfl⟩
   obtain ⟨y, hy⟩ : ∃ y, N[k] = y := ⟨_, rfl⟩
   rw [hx] at hx0 hx1 hx2 hx3 hx4 hs hv1 hTl
   rw [hy] at hy0 hy1 hy2 hy3 hy4 hs hv2
   clear hx hy
   obtain ⟨T, A1, d1⟩ := x
   obtain ⟨T2, A2, d2⟩ := y
   simp only at hs hx0 hx1 hx2 hx3 hx4 hy0 hy1 hy2 hy3 hy4 hv1 hv2 hTl
   subst hs
   have HF : Hid (∀ W, Gr wr W → W.cell? (ad.add (k * 5)) = some (.string T2.name) ∧ W.cell? ⟨(ad.add (k * 5)).block, (ad.add (k * 5)).off + 1, none⟩ = some (.int .i64 T2.start) ∧ W.cell? ⟨(ad.add (k * 5)).block, (ad.add (k * 5)).off + 2, none⟩ = some (.int .i64 T2.step) ∧ W.cell? ⟨(ad.add (k * 5)).block, (ad.add (k * 5)).off + 3, none⟩ = some (.slice A1 T2.vals.length d1) ∧ W.cell? ⟨(ad.add (k * 5)).block, (ad.add (k * 5)).off + 4, none⟩ = some (.int .i64 T2.cons) ∧ W.cell? (ad'.add (k * 5)) = some (.string T2.name) ∧ W.cell? ⟨(ad'.add (k * 5)).block, (ad'.add (k * 5)).off + 1, none⟩ = some (.int .i64 T2.start) ∧ W.cell? ⟨(ad'.add (k * 5)).block, (ad'.add (k * 5)).off + 2, none⟩ = some (.int .i64 T2.step) ∧ W.cell? ⟨(ad'.add (k * 5)).block, (ad'.add (k * 5)).off + 3, none⟩ = some (.slice A2 T2.vals.length d2) ∧ W.cell? ⟨(ad'.add (k * 5)).block, (ad'.add (k * 5)).off + 4, none⟩ = some (.int .i64 T2.cons)) := Lib.hid (fun W hW => ⟨(hW.cell (p := ad.add (k * 5)) (by rw [add_blk]; exact hb)).trans hx0, (hW.cell (p := ⟨(ad.add (k * 5)).block, (ad.add (k * 5)).off + 1, none⟩) (by show (ad.add (k * 5)).block < _; rw [add_blk]; exact hb)).trans hx1, (hW.cell (p := ⟨(ad.add (k * 5)).block, (ad.add (k * 5)).off + 2, none⟩) (by show (ad.add (k * 5)).block < _; rw [add_blk]; exact hb)).trans hx2, (hW.cell (p := ⟨(ad.add (k * 5)).block, (ad.add (k * 5)).off + 3, none⟩) (by show (ad.add (k * 5)).block < _; rw [add_blk]; exact hb)).trans hx3, (hW.cell (p := ⟨(ad.add (k * 5)).block, (ad.add (k * 5)).off + 4, none⟩) (by show (ad.add (k * 5)).block < _; rw [add_blk]; exact hb)).trans hx4, (hW.cell (p := ad'.add (k * 5)) (by rw [add_blk]; exact hb')).trans hy0, (hW.cell (p := ⟨(ad'.add (k * 5)).block, (ad'.add (k * 5)).off + 1, none⟩) (by show (ad'.add (k * 5)).block < _; rw [add_blk]; exact hb')).trans hy1, (hW.cell (p := ⟨(ad'.add (k * 5)).block, (ad'.add (k * 5)).off + 2, none⟩) (by show (ad'.add (k * 5)).block < _; rw [add_blk]; exact hb')).trans hy2, (hW.cell (p := ⟨(ad'.add (k * 5)).block, (ad'.add (k * 5)).off + 3, none⟩) (by show (ad'.add (k * 5)).block < _; rw [add_blk]; exact hb')).trans hy3, (hW.cell (p := ⟨(ad'.add (k * 5)).block, (ad'.add (k * 5)).off + 4, none⟩) (by show (ad'.add (k * 5)).block < _; rw [add_blk]; exact hb')).trans hy4⟩)
   clear hx0 hx1 hx2 hx3 hx4 hy0 hy1 hy2 hy3 hy4
   go_wp2
   refine region_Q (by kernel_rfl) (by kernel_rfl) ?_
   refine q_val (v := ?qv1) (by rfl) (fun W hW => ?qh1) ?qr1
   case qh1 =>
     go_simp
     rfl
   simp only [Pu]
   refine q_val (v := ?qv2) (by rfl) (fun W hW => ?qh2) ?qr2
   case qh2 =>
     go_simp
     rfl
   simp only [Pu]
   refine q_val (v := ?qv3) (by rfl) (fun W hW => ?qh3) ?qr3
   case qh3 =>
     go_simp
     rfl
   simp only [Pu]
   refine q_val (v := ?qv4) (by rfl) (fun W hW => ?qh4) ?qr4
   case qh4 =>
     obtain ⟨y0, y1, y2, y3, y4, z0, z1, z2, z3, z4⟩ := HF.out W hW
     go_simp
     rfl
   simp only [Pu]
   refine q_val (v := ?qv5) (by rfl) (fun W hW => ?qh5) ?qr5
   case qh5 =>
     go_simp
     rfl
   simp only [Pu]
   refine q_val (v := ?qv6) (by rfl) (fun W hW => ?qh6) ?qr6
   case qh6 =>
     go_simp
     rfl
   simp only [Pu]
   refine q_val (v := ?qv7) (by rfl) (fun W hW => ?qh7) ?qr7
   case qh7 =>
     go_simp
     rfl
   simp only [Pu]
   refine q_val (v := ?qv8) (by rfl) (fun W hW => ?qh8) ?qr8
   case qh8 =>
     obtain ⟨y0, y1, y2, y3, y4, z0, z1, z2, z3, z4⟩ := HF.out W hW
     go_simp
     rfl
   simp only [Pu]
   refine q_call (v := .bool true) (f := ?qf9) (args := ?qa9) (by rfl) (fun W hW => ?qh9) (fun W hW => ?qc9) ?qr9
   case qh9 => go_simp; constructor <;> rfl
   case qc9 => exact (same23_self T2 A1 A2 d1 d2 W hTl ((hv1.gr hgr).gr hW) ((hv2.gr hgr).gr hW)).mono (fun e w' h => ⟨h.1, Gr.trans hW h.2⟩)
   simp only [Pu]
   refine q_val (v := ?qv10) (by rfl) (fun W hW => ?qh10) ?qr10
   case qh10 =>
     go_simp
     rfl
   simp only [Pu]
   refine wpQuiet_nil ?_
   intro w6 hg6
   have gw6 := Gr.trans hgr hg6
   clear HF hg6
   go_wp2
   go_roundw
   case rel => exact ⟨k + 1, by omega, by go_num, gw6⟩
   case measure => simp [intOf]; omega
  ·
   have hkk : k = M.length := by omega
   subst hkk
   go_wp2
   go_ret
   exact ⟨rfl, hgr⟩



def KnS (B : Nat) (xa xb : Sq) (W : World) : Prop := BAt W (B + 1) xa ∧ BAt W (B + 1 + 1 + 1) xb
theorem KnS.gr {B : Nat} {xa xb : Sq} {w w' : World} (h : KnS B xa xb w) (g : Gr w w') : KnS B xa xb w' := ⟨h.1.gr g, h.2.gr g⟩
theorem high_one : applyE ⟨#[104, 105, 103, 104, 101, 115, 116, 77, 97, 120]⟩ [⟨⟨#[98]⟩, 0, 1, [⟨true, 4⟩], 0⟩, ⟨⟨#[97]⟩, 0, 1, [⟨true, 1⟩, ⟨true, 5⟩], 0⟩] = 0 ∧ applyS ⟨#[104, 105, 103, 104, 101, 115, 116, 77, 97, 120]⟩ (intV 1) [⟨⟨#[98]⟩, 0, 1, [⟨true, 4⟩], 0⟩, ⟨⟨#[97]⟩, 0, 1, [⟨true, 1⟩, ⟨true, 5⟩], 0⟩] = [⟨⟨#[97]⟩, 0, 1, [⟨true, 1⟩, ⟨true, 5⟩], 0⟩] := by
 constructor
 ·
  kernel_rfl
 ·
  kernel_rfl
theorem high_kind : (findF ⟨#[104, 105, 103, 104, 101, 115, 116, 77, 97, 120]⟩).isSome = true → 1 ≤ (rowF ⟨#[104, 105, 103, 104, 101, 115, 116, 77, 97, 120]⟩).kind ∧ (rowF ⟨#[104, 105, 103, 104, 101, 115, 116, 77, 97, 120]⟩).kind ≤ 7 := fun _ => by
 have : rowF ⟨#[104, 105, 103, 104, 101, 115, 116, 77, 97, 120]⟩ = R8 := by kernel_rfl
 rw [this]; decide
set_option maxRecDepth 100000 in
set_option maxHeartbeats 3200000 in
theorem known23_any (w : World) : Calls Tryz.prog 20 #[] w fun e w' => e = .returned (.bool true) ∧ Gr w w' := by
 have gA : Gr w ((((w.alloc (.cells (vcells [⟨true, 1⟩, ⟨true, 5⟩]).toArray 23)).alloc (.cells #[.string ⟨#[97]⟩, .int .i64 0, .int .i64 1, .slice (some ⟨w.heap.size, 0, none⟩) 2 2, .int .i64 0] 30)).alloc (.cells (vcells [⟨true, 4⟩]).toArray 23)).alloc (.cells #[.string ⟨#[98]⟩, .int .i64 0, .int .i64 1, .slice (some ⟨w.heap.size + 1 + 1, 0, none⟩) 1 1, .int .i64 0] 30)) := Gr.alloc (Gr.alloc (Gr.alloc (Gr.alloc (Gr.refl _) _) _) _) _
 have hA0 : Rv (w.alloc (.cells (vcells [⟨true, 1⟩, ⟨true, 5⟩]).toArray 23)) (some ⟨w.heap.size, 0, none⟩) [⟨true, 1⟩, ⟨true, 5⟩] := Rv.new rfl _ _
 have hB0 : Rv (((w.alloc (.cells (vcells [⟨true, 1⟩, ⟨true, 5⟩]).toArray 23)).alloc (.cells #[.string ⟨#[97]⟩, .int .i64 0, .int .i64 1, .slice (some ⟨w.heap.size, 0, none⟩) 2 2, .int .i64 0] 30)).alloc (.cells (vcells [⟨true, 4⟩]).toArray 23)) (some ⟨w.heap.size + 1 + 1, 0, none⟩) [⟨true, 4⟩] := Rv.new (by simp) _ _
 have hLie : Lie ((((w.alloc (.cells (vcells [⟨true, 1⟩, ⟨true, 5⟩]).toArray 23)).alloc (.cells #[.string ⟨#[97]⟩, .int .i64 0, .int .i64 1, .slice (some ⟨w.heap.size, 0, none⟩) 2 2, .int .i64 0] 30)).alloc (.cells (vcells [⟨true, 4⟩]).toArray 23)).alloc (.cells #[.string ⟨#[98]⟩, .int .i64 0, .int .i64 1, .slice (some ⟨w.heap.size + 1 + 1, 0, none⟩) 1 1, .int .i64 0] 30)) [(⟨⟨⟨#[98]⟩, 0, 1, [⟨true, 4⟩], 0⟩, some ⟨w.heap.size + 1 + 1, 0, none⟩, 1⟩ : Sq), (⟨⟨⟨#[97]⟩, 0, 1, [⟨true, 1⟩, ⟨true, 5⟩], 0⟩, some ⟨w.heap.size, 0, none⟩, 2⟩ : Sq)] := fun x hx => by
  rcases List.mem_cons.1 hx with rfl | hx
  ·
   exact hB0.gr (Gr.alloc (Gr.refl _) _)
  ·
   rw [List.mem_singleton.1 hx]
   exact hA0.gr (Gr.alloc (Gr.alloc (Gr.alloc (Gr.refl _) _) _) _)
 have hKS : KnS w.heap.size (⟨⟨⟨#[97]⟩, 0, 1, [⟨true, 1⟩, ⟨true, 5⟩], 0⟩, some ⟨w.heap.size, 0, none⟩, 2⟩ : Sq) (⟨⟨⟨#[98]⟩, 0, 1, [⟨true, 4⟩], 0⟩, some ⟨w.heap.size + 1 + 1, 0, none⟩, 1⟩ : Sq) ((((w.alloc (.cells (vcells [⟨true, 1⟩, ⟨true, 5⟩]).toArray 23)).alloc (.cells #[.string ⟨#[97]⟩, .int .i64 0, .int .i64 1, .slice (some ⟨w.heap.size, 0, none⟩) 2 2, .int .i64 0] 30)).alloc (.cells (vcells [⟨true, 4⟩]).toArray 23)).alloc (.cells #[.string ⟨#[98]⟩, .int .i64 0, .int .i64 1, .slice (some ⟨w.heap.size + 1 + 1, 0, none⟩) 1 1, .int .i64 0] 30)) := by
  refine ⟨⟨?_, ?_, ?_, ?_, ?_, ?_⟩, ?_, ?_, ?_, ?_, ?_, ?_⟩
  all_goals first | (go_simp; done) | (simp; done) | (simp; omega)
 have QA := fun (B : Nat) (w' : World) (hr : Rl w' (some ⟨B, 0, none⟩) [(⟨⟨⟨#[98]⟩, 0, 1, [⟨true, 4⟩], 0⟩, some ⟨w.heap.size + 1 + 1, 0, none⟩, 1⟩ : Sq), (⟨⟨⟨#[97]⟩, 0, 1, [⟨true, 1⟩, ⟨true, 5⟩], 0⟩, some ⟨w.heap.size, 0, none⟩, 2⟩ : Sq)]) (hv : Lie w' [(⟨⟨⟨#[98]⟩, 0, 1, [⟨true, 4⟩], 0⟩, some ⟨w.heap.size + 1 + 1, 0, none⟩, 1⟩ : Sq), (⟨⟨⟨#[97]⟩, 0, 1, [⟨true, 1⟩, ⟨true, 5⟩], 0⟩, some ⟨w.heap.size, 0, none⟩, 2⟩ : Sq)]) => apply_any ⟨#[104, 105, 103, 104, 101, 115, 116, 77, 97, 120]⟩ ⟨#[]⟩ (intV 1) (some ⟨B, 0, none⟩) 2 [(⟨⟨⟨#[98]⟩, 0, 1, [⟨true, 4⟩], 0⟩, some ⟨w.heap.size + 1 + 1, 0, none⟩, 1⟩ : Sq), (⟨⟨⟨#[97]⟩, 0, 1, [⟨true, 1⟩, ⟨true, 5⟩], 0⟩, some ⟨w.heap.size, 0, none⟩, 2⟩ : Sq)] w' high_kind (by simp) (by simp) (fun x hx => by
  rcases List.mem_cons.1 hx with rfl | hx
  ·
   simp
  ·
   rw [List.mem_singleton.1 hx]; simp) hr hv
 have e0 : applyE ⟨#[104, 105, 103, 104, 101, 115, 116, 77, 97, 120]⟩ ([(⟨⟨⟨#[98]⟩, 0, 1, [⟨true, 4⟩], 0⟩, some ⟨w.heap.size + 1 + 1, 0, none⟩, 1⟩ : Sq), (⟨⟨⟨#[97]⟩, 0, 1, [⟨true, 1⟩, ⟨true, 5⟩], 0⟩, some ⟨w.heap.size, 0, none⟩, 2⟩ : Sq)].map Sq.s) = 0 := high_one.1
 have e1 : applyS ⟨#[104, 105, 103, 104, 101, 115, 116, 77, 97, 120]⟩ (intV 1) ([(⟨⟨⟨#[98]⟩, 0, 1, [⟨true, 4⟩], 0⟩, some ⟨w.heap.size + 1 + 1, 0, none⟩, 1⟩ : Sq), (⟨⟨⟨#[97]⟩, 0, 1, [⟨true, 1⟩, ⟨true, 5⟩], 0⟩, some ⟨w.heap.size, 0, none⟩, 2⟩ : Sq)].map Sq.s) = [⟨⟨#[97]⟩, 0, 1, [⟨true, 1⟩, ⟨true, 5⟩], 0⟩] := high_one.2
 rw [e0, e1] at QA
 clear e0 e1 hA0 hB0
 go_enter Tryz.func20, Tryz.ntmps20
 go_upto_region 3 with (fail)
 go_cut [3, 4] from 13 to 20 (fun p q wx => ∃ (AM : Option Addr) (M : List Sq) (cM : Nat), p = .slice AM M.length cM ∧ q = .int .i64 0 ∧ M.map Sq.s = [⟨⟨#[97]⟩, 0, 1, [⟨true, 1⟩, ⟨true, 5⟩], 0⟩] ∧ Rl wx AM M ∧ Gr w wx)
 case first =>
  have hS0 : KnS w.heap.size (⟨⟨⟨#[97]⟩, 0, 1, [⟨true, 1⟩, ⟨true, 5⟩], 0⟩, some ⟨w.heap.size, 0, none⟩, 2⟩ : Sq) (⟨⟨⟨#[98]⟩, 0, 1, [⟨true, 4⟩], 0⟩, some ⟨w.heap.size + 1 + 1, 0, none⟩, 1⟩ : Sq) ((((w.alloc (.cells (vcells [⟨true, 1⟩, ⟨true, 5⟩]).toArray 23)).alloc (.cells #[.string ⟨#[97]⟩, .int .i64 0, .int .i64 1, .slice (some ⟨w.heap.size, 0, none⟩) 2 2, .int .i64 0] 30)).alloc (.cells (vcells [⟨true, 4⟩]).toArray 23)).alloc (.cells #[.string ⟨#[98]⟩, .int .i64 0, .int .i64 1, .slice (some ⟨w.heap.size + 1 + 1, 0, none⟩) 1 1, .int .i64 0] 30)).drew := hKS.gr (Gr.drew (Gr.refl _))
  have hLieV := hLie.gr (Gr.drew (Gr.refl _))
  have gV : Gr w ((((w.alloc (.cells (vcells [⟨true, 1⟩, ⟨true, 5⟩]).toArray 23)).alloc (.cells #[.string ⟨#[97]⟩, .int .i64 0, .int .i64 1, .slice (some ⟨w.heap.size, 0, none⟩) 2 2, .int .i64 0] 30)).alloc (.cells (vcells [⟨true, 4⟩]).toArray 23)).alloc (.cells #[.string ⟨#[98]⟩, .int .i64 0, .int .i64 1, .slice (some ⟨w.heap.size + 1 + 1, 0, none⟩) 1 1, .int .i64 0] 30)).drew := Gr.drew gA
  obtain ⟨V, hV⟩ : ∃ V, V = ((((w.alloc (.cells (vcells [⟨true, 1⟩, ⟨true, 5⟩]).toArray 23)).alloc (.cells #[.string ⟨#[97]⟩, .int .i64 0, .int .i64 1, .slice (some ⟨w.heap.size, 0, none⟩) 2 2, .int .i64 0] 30)).alloc (.cells (vcells [⟨true, 4⟩]).toArray 23)).alloc (.cells #[.string ⟨#[98]⟩, .int .i64 0, .int .i64 1, .slice (some ⟨w.heap.size + 1 + 1, 0, none⟩) 1 1, .int .i64 0] 30)).drew := ⟨_, rfl⟩
  refine wp_region_Z 9 (KnS w.heap.size (⟨⟨⟨#[97]⟩, 0, 1, [⟨true, 1⟩, ⟨true, 5⟩], 0⟩, some ⟨w.heap.size, 0, none⟩, 2⟩ : Sq) (⟨⟨⟨#[98]⟩, 0, 1, [⟨true, 4⟩], 0⟩, some ⟨w.heap.size + 1 + 1, 0, none⟩, 1⟩ : Sq)) (by kernel_rfl) ?_
  have hV' : V = ((((w.alloc (.cells #[.bool true, .int .i64 1, .bool true, .int .i64 5] 23)).alloc (.cells #[.string ⟨#[97]⟩, .int .i64 0, .int .i64 1, .slice (some ⟨w.heap.size, 0, none⟩) 2 2, .int .i64 0] 30)).alloc (.cells #[.bool true, .int .i64 4] 23)).alloc (.cells #[.string ⟨#[98]⟩, .int .i64 0, .int .i64 1, .slice (some ⟨w.heap.size + 1 + 1, 0, none⟩) 1 1, .int .i64 0] 30)).drew := hV
  rw [← hV'] 
  rw [← hV] at hS0 hLieV gV
  have gr0 : Gr V V := Gr.refl V
  clear hV hV' hLie hKS gA
  refine wpAnyZ_take (i := 1) (v := ?v1) rfl (by kernel_rfl) (fun _ _ _ h => h) (by rfl) (fun W hS => ?h1) hS0 ?r1
  case h1 => obtain ⟨⟨a0, a1, a2, a3, a4, a5⟩, b0, b1, b2, b3, b4, b5⟩ := hS; go_simp; rfl
  simp only [Act.put, List.setIfInBounds_toArray, List.set_cons_zero, List.set_cons_succ]
  refine wpAnyZ_take (i := 2) (v := ?v2) rfl (by kernel_rfl) (fun _ _ _ h => h) (by rfl) (fun W hS => ?h2) hS0 ?r2
  case h2 => obtain ⟨⟨a0, a1, a2, a3, a4, a5⟩, b0, b1, b2, b3, b4, b5⟩ := hS; go_simp; rfl
  simp only [Act.put, List.setIfInBounds_toArray, List.set_cons_zero, List.set_cons_succ]
  refine wpAnyZ_ready (rs := [0, 3]) (by kernel_rfl) (by simp) ?_
  refine AllReadyZ.cons rfl (by rfl) (fun K hK => ?_) (AllReadyZ.cons rfl (by rfl) (fun K hK => ?_) AllReadyZ.nil)
  ·
   go_simp
   refine (rint_any 1 _).mono ?_; rintro e w501 ⟨rfl, hg503⟩
   have g502 := Gr.trans gr0 hg503
   have hS504 := KnS.gr hS0 hg503
   go_wp2_with fail
   refine hK.out _ _ (fun hnz => ?s3) (fun _ => ?r3)
   case s3 => exact hS504
   clear hK K
   try simp only [Pu]
   refine wpAnyZ_ready (rs := [3]) (by kernel_rfl) (by simp) ?_
   refine AllReadyZ.cons rfl (by rfl) (fun K hK => ?_) ?_
   rotate_left
   exact AllReadyZ.nil
   have hR507 := Rl.new (W := w501) rfl 30 [(⟨⟨⟨#[98]⟩, 0, 1, [⟨true, 4⟩], 0⟩, some ⟨w.heap.size + 1 + 1, 0, none⟩, 1⟩ : Sq), (⟨⟨⟨#[97]⟩, 0, 1, [⟨true, 1⟩, ⟨true, 5⟩], 0⟩, some ⟨w.heap.size, 0, none⟩, 2⟩ : Sq)]
   have g505 := Gr.alloc g502 (.cells (scells [(⟨⟨⟨#[98]⟩, 0, 1, [⟨true, 4⟩], 0⟩, some ⟨w.heap.size + 1 + 1, 0, none⟩, 1⟩ : Sq), (⟨⟨⟨#[97]⟩, 0, 1, [⟨true, 1⟩, ⟨true, 5⟩], 0⟩, some ⟨w.heap.size, 0, none⟩, 2⟩ : Sq)]).toArray 30)
   have hS506 := KnS.gr hS504 (Gr.alloc (Gr.refl _) (.cells (scells [(⟨⟨⟨#[98]⟩, 0, 1, [⟨true, 4⟩], 0⟩, some ⟨w.heap.size + 1 + 1, 0, none⟩, 1⟩ : Sq), (⟨⟨⟨#[97]⟩, 0, 1, [⟨true, 1⟩, ⟨true, 5⟩], 0⟩, some ⟨w.heap.size, 0, none⟩, 2⟩ : Sq)]).toArray 30))
   go_simp
   refine hK.out _ _ (fun hnz => ?s4) (fun _ => ?r4)
   case s4 => exact hS506
   clear hK K
   try simp only [Pu]
   obtain ⟨V508, hV508⟩ : ∃ V508, V508 = w501.alloc (.cells (scells [(⟨⟨⟨#[98]⟩, 0, 1, [⟨true, 4⟩], 0⟩, some ⟨w.heap.size + 1 + 1, 0, none⟩, 1⟩ : Sq), (⟨⟨⟨#[97]⟩, 0, 1, [⟨true, 1⟩, ⟨true, 5⟩], 0⟩, some ⟨w.heap.size, 0, none⟩, 2⟩ : Sq)]).toArray 30) := ⟨_, rfl⟩
   have eV508 : w501.alloc (.cells (#[.string ⟨#[98]⟩, .int .i64 0, .int .i64 1, .slice (some ⟨w.heap.size + 1 + 1, 0, none⟩) 1 1, .int .i64 0, .string ⟨#[97]⟩, .int .i64 0, .int .i64 1, .slice (some ⟨w.heap.size, 0, none⟩) 2 2, .int .i64 0]) 30) = V508 := hV508.symm
   rw [← hV508] at g505 hS506 hR507
   rw [eV508]
   clear hV508 eV508
   refine wpAnyZ_ready (rs := [4]) (by kernel_rfl) (by simp) ?_
   refine AllReadyZ.cons rfl (by rfl) (fun K hK => ?_) ?_
   rotate_left
   exact AllReadyZ.nil
   go_simp
   refine (QA _ _ hR507 (hLieV.gr g505)).mono ?_; rintro e w509 ⟨AM, M, cM, rfl, hM, _, hRM, _, hg512⟩
   have g510 := Gr.trans g505 hg512
   have hS511 := KnS.gr hS506 hg512
   go_wp2_with fail
   refine hK.out _ _ (fun hnz => ?s5) (fun _ => ?r5)
   case s5 => exact hS511
   clear hK K
   try simp only [Pu]
   refine wpAnyZ_take (i := 5) (v := ?v6) rfl (by kernel_rfl) (fun _ _ _ h => h) (by rfl) (fun W hS => ?h6) hS511 ?r6
   case h6 => go_simp; rfl
   simp only [Act.put, List.setIfInBounds_toArray, List.set_cons_zero, List.set_cons_succ]
   refine wpAnyZ_take (i := 6) (v := ?v7) rfl (by kernel_rfl) (fun _ _ _ h => h) (by rfl) (fun W hS => ?h7) hS511 ?r7
   case h7 => go_simp; rfl
   simp only [Act.put, List.setIfInBounds_toArray, List.set_cons_zero, List.set_cons_succ]
   refine wpAnyZ_take (i := 7) (v := ?v8) rfl (by kernel_rfl) (fun _ _ _ h => h) (by rfl) (fun W hS => ?h8) hS511 ?r8
   case h8 => go_simp; rfl
   simp only [Act.put, List.setIfInBounds_toArray, List.set_cons_zero, List.set_cons_succ]
   refine wpAnyZ_ready (rs := [8]) (by kernel_rfl) (by simp) ?_
   refine AllReadyZ.cons rfl (by rfl) (fun K hK => ?_) ?_
   rotate_left
   exact AllReadyZ.nil
   go_simp
   refine hK.out _ _ (fun hnz => ?s9) (fun _ => ?r9)
   case s9 => exact hS511
   clear hK K
   try simp only [Pu]
   refine wpAnyZ_ready (rs := [9]) (by kernel_rfl) (by simp) ?_
   refine AllReadyZ.cons rfl (by rfl) (fun K hK => ?_) ?_
   rotate_left
   exact AllReadyZ.nil
   go_simp
   refine hK.out _ _ (fun hnz => ?s10) (fun _ => ?r10)
   case s10 => exact absurd rfl hnz
   clear hK K
   try simp only [Pu]
   refine wpAnyZ_done (by kernel_rfl) ?_ _
   go_wp2_with fail
   go_meet
   exact ⟨_, _, _, rfl, rfl, hM, hRM, Gr.trans gV g510⟩
  ·
   have hR515 := Rl.new (W := V) rfl 30 [(⟨⟨⟨#[98]⟩, 0, 1, [⟨true, 4⟩], 0⟩, some ⟨w.heap.size + 1 + 1, 0, none⟩, 1⟩ : Sq), (⟨⟨⟨#[97]⟩, 0, 1, [⟨true, 1⟩, ⟨true, 5⟩], 0⟩, some ⟨w.heap.size, 0, none⟩, 2⟩ : Sq)]
   have g513 := Gr.alloc gr0 (.cells (scells [(⟨⟨⟨#[98]⟩, 0, 1, [⟨true, 4⟩], 0⟩, some ⟨w.heap.size + 1 + 1, 0, none⟩, 1⟩ : Sq), (⟨⟨⟨#[97]⟩, 0, 1, [⟨true, 1⟩, ⟨true, 5⟩], 0⟩, some ⟨w.heap.size, 0, none⟩, 2⟩ : Sq)]).toArray 30)
   have hS514 := KnS.gr hS0 (Gr.alloc (Gr.refl _) (.cells (scells [(⟨⟨⟨#[98]⟩, 0, 1, [⟨true, 4⟩], 0⟩, some ⟨w.heap.size + 1 + 1, 0, none⟩, 1⟩ : Sq), (⟨⟨⟨#[97]⟩, 0, 1, [⟨true, 1⟩, ⟨true, 5⟩], 0⟩, some ⟨w.heap.size, 0, none⟩, 2⟩ : Sq)]).toArray 30))
   go_simp
   refine hK.out _ _ (fun hnz => ?s11) (fun _ => ?r11)
   case s11 => exact hS514
   clear hK K
   try simp only [Pu]
   obtain ⟨V516, hV516⟩ : ∃ V516, V516 = V.alloc (.cells (scells [(⟨⟨⟨#[98]⟩, 0, 1, [⟨true, 4⟩], 0⟩, some ⟨w.heap.size + 1 + 1, 0, none⟩, 1⟩ : Sq), (⟨⟨⟨#[97]⟩, 0, 1, [⟨true, 1⟩, ⟨true, 5⟩], 0⟩, some ⟨w.heap.size, 0, none⟩, 2⟩ : Sq)]).toArray 30) := ⟨_, rfl⟩
   have eV516 : V.alloc (.cells (#[.string ⟨#[98]⟩, .int .i64 0, .int .i64 1, .slice (some ⟨w.heap.size + 1 + 1, 0, none⟩) 1 1, .int .i64 0, .string ⟨#[97]⟩, .int .i64 0, .int .i64 1, .slice (some ⟨w.heap.size, 0, none⟩) 2 2, .int .i64 0]) 30) = V516 := hV516.symm
   rw [← hV516] at g513 hS514 hR515
   rw [eV516]
   clear hV516 eV516
   refine wpAnyZ_ready (rs := [0]) (by kernel_rfl) (by simp) ?_
   refine AllReadyZ.cons rfl (by rfl) (fun K hK => ?_) ?_
   rotate_left
   exact AllReadyZ.nil
   go_simp
   refine (rint_any 1 _).mono ?_; rintro e w517 ⟨rfl, hg519⟩
   have g518 := Gr.trans g513 hg519
   have hS520 := KnS.gr hS514 hg519
   have hR521 := hR515.gr hg519
   go_wp2_with fail
   refine hK.out _ _ (fun hnz => ?s12) (fun _ => ?r12)
   case s12 => exact hS520
   clear hK K
   try simp only [Pu]
   refine wpAnyZ_ready (rs := [4]) (by kernel_rfl) (by simp) ?_
   refine AllReadyZ.cons rfl (by rfl) (fun K hK => ?_) ?_
   rotate_left
   exact AllReadyZ.nil
   go_simp
   refine (QA _ _ hR521 (hLieV.gr g518)).mono ?_; rintro e w522 ⟨AM, M, cM, rfl, hM, _, hRM, _, hg525⟩
   have g523 := Gr.trans g518 hg525
   have hS524 := KnS.gr hS520 hg525
   go_wp2_with fail
   refine hK.out _ _ (fun hnz => ?s13) (fun _ => ?r13)
   case s13 => exact hS524
   clear hK K
   try simp only [Pu]
   refine wpAnyZ_take (i := 5) (v := ?v14) rfl (by kernel_rfl) (fun _ _ _ h => h) (by rfl) (fun W hS => ?h14) hS524 ?r14
   case h14 => go_simp; rfl
   simp only [Act.put, List.setIfInBounds_toArray, List.set_cons_zero, List.set_cons_succ]
   refine wpAnyZ_take (i := 6) (v := ?v15) rfl (by kernel_rfl) (fun _ _ _ h => h) (by rfl) (fun W hS => ?h15) hS524 ?r15
   case h15 => go_simp; rfl
   simp only [Act.put, List.setIfInBounds_toArray, List.set_cons_zero, List.set_cons_succ]
   refine wpAnyZ_take (i := 7) (v := ?v16) rfl (by kernel_rfl) (fun _ _ _ h => h) (by rfl) (fun W hS => ?h16) hS524 ?r16
   case h16 => go_simp; rfl
   simp only [Act.put, List.setIfInBounds_toArray, List.set_cons_zero, List.set_cons_succ]
   refine wpAnyZ_ready (rs := [8]) (by kernel_rfl) (by simp) ?_
   refine AllReadyZ.cons rfl (by rfl) (fun K hK => ?_) ?_
   rotate_left
   exact AllReadyZ.nil
   go_simp
   refine hK.out _ _ (fun hnz => ?s17) (fun _ => ?r17)
   case s17 => exact hS524
   clear hK K
   try simp only [Pu]
   refine wpAnyZ_ready (rs := [9]) (by kernel_rfl) (by simp) ?_
   refine AllReadyZ.cons rfl (by rfl) (fun K hK => ?_) ?_
   rotate_left
   exact AllReadyZ.nil
   go_simp
   refine hK.out _ _ (fun hnz => ?s18) (fun _ => ?r18)
   case s18 => exact absurd rfl hnz
   clear hK K
   try simp only [Pu]
   refine wpAnyZ_done (by kernel_rfl) ?_ _
   go_wp2_with fail
   go_meet
   exact ⟨_, _, _, rfl, rfl, hM, hRM, Gr.trans gV g523⟩
 case rest =>
 obtain ⟨AM, M, cM, rfl, rfl, hM, hR, gw⟩ := hcut
 clear QA hLie hKS gA
 obtain ⟨y, rfl⟩ : ∃ y, M = [y] := by
  have h1 : M.length = 1 := by have := congrArg List.length hM; simpa using this
  exact List.length_eq_one_iff.1 h1
 obtain ⟨ys, yA, yc⟩ := y
 have hy : ys = ⟨⟨#[97]⟩, 0, 1, [⟨true, 1⟩, ⟨true, 5⟩], 0⟩ := by simpa using hM
 subst hy
 obtain ⟨ad, rfl, hb, m0, m1, m2, m3, m4⟩ := hR.at (k := 0) (by simp)
 rw [show ad.add (0 * 5) = ad by simp [Addr.add]] at m0 m1 m2 m3 m4
 simp only [List.getElem_cons_zero] at m0 m1 m2 m3 m4
 clear hM hR m1 m2 m3 m4
 go_wp2
 go_ret
 exact ⟨rfl, gw⟩
end Go.Proofs.YtbdichmkgcngbaaGreat
