/- The contract of agg.Of: many values as one, in any of the five ways. · Plain notions of chapter 18: a series, whether it may be, where a time lies in it, what it is at other times. No program in sight. · Plain laws of chapter 18: many values as one are a value; one value alone is itself; a series at its own times is itself. No program in sight. -/
import Derived.Test.YtbdichmkgcngbaaGreatRunFxBase
import Derived.Test.YtbdichmkgcngbaaGreatRunFxTwo
import Derived.Test.YtbdichmkgcngbaaGreatFxMul
import Derived.Outline
namespace Go.Proofs.YtbdichmkgcngbaaGreat
open Go.RowKit

def maxV (x : Vl) (l : List Vl) : Vl := l.foldl (fun b v => bif lessB b v then v else b) x
def minV (x : Vl) (l : List Vl) : Vl := l.foldl (fun b v => bif lessB v b then v else b) x
/-- known values as one. -/
def ofK (kind : Int) (K : List Vl) : Vl :=
 if h : 0 < K.length then if kind = 2 then addV K else if kind = 1 then divV (addV K) (intV (K.length : Nat)) else if kind = 3 then K[K.length - 1] else if kind = 4 then maxV K[0] K else if kind = 5 then minV K[0] K else ⟨false, 0⟩
 else ⟨false, 0⟩
def aggV (kind : Int) (l : List Vl) : Vl := ofK kind (kn l)

theorem max_take {x : Vl} {K : List Vl} {k : Nat} (h : k < K.length) : maxV x (K.take (k + 1)) = bif lessB (maxV x (K.take k)) K[k] then K[k] else maxV x (K.take k) := by
 unfold maxV; rw [List.take_succ_eq_append_getElem h, List.foldl_append]; rfl
theorem min_take {x : Vl} {K : List Vl} {k : Nat} (h : k < K.length) : minV x (K.take (k + 1)) = bif lessB K[k] (minV x (K.take k)) then K[k] else minV x (K.take k) := by
 unfold minV; rw [List.take_succ_eq_append_getElem h, List.foldl_append]; rfl
theorem len_facts {K : List Vl} (h0 : 0 < K.length) : ((K.length : Int) == 0) = false ∧ (K.length == 0) = false := by
 constructor
 ·
  exact beq_eq_false_iff_ne.2 (by omega)
 ·
  exact beq_eq_false_iff_ne.2 (by omega)

set_option maxRecDepth 100000 in
set_option maxHeartbeats 1600000 in
theorem of_nil (kind : Int) (A : Option Addr) (c : Nat) (l : List Vl) (w : World) (hl : l.length ≤ 1000000) (hr : Rv w A l) (h0 : (kn l).length = 0) :
  Calls Tryz.prog 95 #[.int .i64 kind, .slice A l.length c] w fun e w' => e = .returned (.agg #[.bool (⟨false, 0⟩ : Vl).ok, .int .i64 (⟨false, 0⟩ : Vl).n]) ∧ Gr w w' := by
 obtain ⟨K, hK⟩ : ∃ K, K = kn l := ⟨_, rfl⟩
 have hn : (((kn l).length : Int) == 0) = true := by simp [h0]
 have hn' : ((kn l).length == 0) = true := by simp [h0]
 have H0 := Lib.hid h0; clear h0 hK
 go_enter Tryz.func95, Tryz.ntmps95
 go_wp2_with fail
 refine (known_vals_any A c l _ hl (hr.gr (Gr.alloc (Gr.refl _) _))).mono ?_; rintro e w1 ⟨A', c', rfl, hrv, hg⟩
 obtain ⟨hc, hf⟩ := hg.cells
 have z0 : w.heap.size < w1.heap.size := by have := hg.size; simp at this; omega
 have q0 : w1.cell? ⟨w.heap.size, 0, none⟩ = some (.bool false) := by go_simp
 have q1 : w1.cell? ⟨w.heap.size, 1, none⟩ = some (.int .i64 0) := by go_simp
 have f0 : w1.frozen? ⟨w.heap.size, 0, none⟩ = false := by go_simp
 have f1 : w1.frozen? ⟨w.heap.size, 1, none⟩ = false := by go_simp
 have hgw : Gr w w1 := (by repeat (first | exact Gr.refl _ | refine Gr.alloc ?_ _ | refine Gr.drew ?_ | refine Gr.setCell ?_ (by first | (simp; done) | (simp; omega) | omega) _ | refine Gr.trans ?_ (by assumption)))
 clear hc hf hg
 go_wp2
 exact bodyPost_ret (v := .agg #[.bool false, .int .i64 0]) (by simp [results, Tryz.results95, go_sem, *]) rfl ⟨rfl, (by repeat (first | exact Gr.refl _ | refine Gr.alloc ?_ _ | refine Gr.drew ?_ | refine Gr.setCell ?_ (by first | (simp; done) | (simp; omega) | omega) _ | refine Gr.trans ?_ (by assumption)))⟩
set_option maxRecDepth 100000 in
set_option maxHeartbeats 1600000 in
theorem of_sum (A : Option Addr) (c : Nat) (l : List Vl) (w : World) (hl : l.length ≤ 1000000) (hr : Rv w A l) (K : List Vl) (hK : kn l = K) (h0 : 0 < K.length) :
  Calls Tryz.prog 95 #[.int .i64 2, .slice A l.length c] w fun e w' => e = .returned (.agg #[.bool (addV K).ok, .int .i64 (addV K).n]) ∧ Gr w w' := by
 have hlen : K.length ≤ 1000000 := by rw [← hK]; exact Nat.le_trans (kn_len l) hl
 obtain ⟨hn, hn'⟩ := len_facts h0
 have hlK : (K.length : Int) ≤ 1000000 := by omega
 have hpK : (0 : Int) < (K.length : Int) := by omega
 go_enter Tryz.func95, Tryz.ntmps95
 go_wp2_with fail
 refine (known_vals_any A c l _ hl (hr.gr (Gr.alloc (Gr.refl _) _))).mono ?_; rintro e w1 ⟨A', c', rfl, hrv, hg⟩
 obtain ⟨hc, hf⟩ := hg.cells
 have z0 : w.heap.size < w1.heap.size := by have := hg.size; simp at this; omega
 have q0 : w1.cell? ⟨w.heap.size, 0, none⟩ = some (.bool false) := by go_simp
 have q1 : w1.cell? ⟨w.heap.size, 1, none⟩ = some (.int .i64 0) := by go_simp
 have f0 : w1.frozen? ⟨w.heap.size, 0, none⟩ = false := by go_simp
 have f1 : w1.frozen? ⟨w.heap.size, 1, none⟩ = false := by go_simp
 have hgw : Gr w w1 := (by repeat (first | exact Gr.refl _ | refine Gr.alloc ?_ _ | refine Gr.drew ?_ | refine Gr.setCell ?_ (by first | (simp; done) | (simp; omega) | omega) _ | refine Gr.trans ?_ (by assumption)))
 clear hc hf hg
 rw [hK] at hrv ⊢
 have HK := Lib.hid hK; clear hK
 obtain ⟨ad, hAd, hb, hx0, hx1⟩ := hrv.at h0
 subst hAd
 rw [Nat.zero_mul] at hx0 hx1
 have ha0 : ad.add 0 = ad := rfl
 rw [ha0] at hx0 hx1
 go_wp2_with fail
 refine (add_any (some ad) c' K _ (by unfold maxLen; omega) ?hrA).mono ?_; (case hrA => exact hrv.gr (by repeat (first | exact Gr.refl _ | refine Gr.alloc ?_ _ | refine Gr.drew ?_ | refine Gr.setCell ?_ (by first | (simp; done) | (simp; omega) | omega) _ | refine Gr.trans ?_ (by assumption)))); rintro e w2 ⟨rfl, hg2⟩
 have hgA : Gr w1 w2 := (by repeat (first | exact Gr.refl _ | refine Gr.alloc ?_ _ | refine Gr.drew ?_ | refine Gr.setCell ?_ (by first | (simp; done) | (simp; omega) | omega) _ | refine Gr.trans ?_ (by assumption)))
 clear hg2
 have x0 := (hgA.cell (p := ⟨w.heap.size, 0, none⟩) z0).trans q0
 have x1 := (hgA.cell (p := ⟨w.heap.size, 1, none⟩) z0).trans q1
 have y0 := (hgA.frozen (p := ⟨w.heap.size, 0, none⟩) z0).trans f0
 have y1 := (hgA.frozen (p := ⟨w.heap.size, 1, none⟩) z0).trans f1
 go_wp2
 exact bodyPost_ret (v := .agg #[.bool (addV K).ok, .int .i64 (addV K).n]) (by simp [results, Tryz.results95, go_sem, *]) rfl ⟨rfl, (by repeat (first | exact Gr.refl _ | refine Gr.alloc ?_ _ | refine Gr.drew ?_ | refine Gr.setCell ?_ (by first | (simp; done) | (simp; omega) | omega) _ | refine Gr.trans ?_ (by assumption)))⟩
set_option maxRecDepth 100000 in
set_option maxHeartbeats 1600000 in
theorem of_avg (A : Option Addr) (c : Nat) (l : List Vl) (w : World) (hl : l.length ≤ 1000000) (hr : Rv w A l) (K : List Vl) (hK : kn l = K) (h0 : 0 < K.length) :
  Calls Tryz.prog 95 #[.int .i64 1, .slice A l.length c] w fun e w' => e = .returned (.agg #[.bool (divV (addV K) (intV (K.length : Nat))).ok, .int .i64 (divV (addV K) (intV (K.length : Nat))).n]) ∧ Gr w w' := by
 have hlen : K.length ≤ 1000000 := by rw [← hK]; exact Nat.le_trans (kn_len l) hl
 obtain ⟨hn, hn'⟩ := len_facts h0
 have hlK : (K.length : Int) ≤ 1000000 := by omega
 have hpK : (0 : Int) < (K.length : Int) := by omega
 go_enter Tryz.func95, Tryz.ntmps95
 go_wp2_with fail
 refine (known_vals_any A c l _ hl (hr.gr (Gr.alloc (Gr.refl _) _))).mono ?_; rintro e w1 ⟨A', c', rfl, hrv, hg⟩
 obtain ⟨hc, hf⟩ := hg.cells
 have z0 : w.heap.size < w1.heap.size := by have := hg.size; simp at this; omega
 have q0 : w1.cell? ⟨w.heap.size, 0, none⟩ = some (.bool false) := by go_simp
 have q1 : w1.cell? ⟨w.heap.size, 1, none⟩ = some (.int .i64 0) := by go_simp
 have f0 : w1.frozen? ⟨w.heap.size, 0, none⟩ = false := by go_simp
 have f1 : w1.frozen? ⟨w.heap.size, 1, none⟩ = false := by go_simp
 have hgw : Gr w w1 := (by repeat (first | exact Gr.refl _ | refine Gr.alloc ?_ _ | refine Gr.drew ?_ | refine Gr.setCell ?_ (by first | (simp; done) | (simp; omega) | omega) _ | refine Gr.trans ?_ (by assumption)))
 clear hc hf hg
 rw [hK] at hrv ⊢
 have HK := Lib.hid hK; clear hK
 obtain ⟨ad, hAd, hb, hx0, hx1⟩ := hrv.at h0
 subst hAd
 rw [Nat.zero_mul] at hx0 hx1
 have ha0 : ad.add 0 = ad := rfl
 rw [ha0] at hx0 hx1
 go_wp2_with fail
 refine (add_any (some ad) c' K _ (by unfold maxLen; omega) ?hrA).mono ?_; (case hrA => exact hrv.gr (by repeat (first | exact Gr.refl _ | refine Gr.alloc ?_ _ | refine Gr.drew ?_ | refine Gr.setCell ?_ (by first | (simp; done) | (simp; omega) | omega) _ | refine Gr.trans ?_ (by assumption)))); rintro e w2 ⟨rfl, hg2⟩
 have hgA : Gr w1 w2 := (by repeat (first | exact Gr.refl _ | refine Gr.alloc ?_ _ | refine Gr.drew ?_ | refine Gr.setCell ?_ (by first | (simp; done) | (simp; omega) | omega) _ | refine Gr.trans ?_ (by assumption)))
 clear hg2
 have HA := Lib.hid hgA
 go_wp2_with fail
 refine (int_any (K.length : Nat) _).mono ?_; rintro e w3 ⟨rfl, hg3⟩
 have hgB : Gr w1 w3 := Gr.trans hgA hg3
 clear hg3 hgA
 go_wp2_with fail
 refine (div_any (addV K) (intV (K.length : Nat)) _).mono ?_; rintro e w4 ⟨rfl, hg4⟩
 have hgC : Gr w1 w4 := Gr.trans hgB hg4
 clear hg4 hgB
 have x0 := (hgC.cell (p := ⟨w.heap.size, 0, none⟩) z0).trans q0
 have x1 := (hgC.cell (p := ⟨w.heap.size, 1, none⟩) z0).trans q1
 have y0 := (hgC.frozen (p := ⟨w.heap.size, 0, none⟩) z0).trans f0
 have y1 := (hgC.frozen (p := ⟨w.heap.size, 1, none⟩) z0).trans f1
 go_wp2
 exact bodyPost_ret (v := .agg #[.bool (divV (addV K) (intV (K.length : Nat))).ok, .int .i64 (divV (addV K) (intV (K.length : Nat))).n]) (by simp [results, Tryz.results95, go_sem, *]) rfl ⟨rfl, (by repeat (first | exact Gr.refl _ | refine Gr.alloc ?_ _ | refine Gr.drew ?_ | refine Gr.setCell ?_ (by first | (simp; done) | (simp; omega) | omega) _ | refine Gr.trans ?_ (by assumption)))⟩
set_option maxRecDepth 100000 in
set_option maxHeartbeats 1600000 in
theorem of_last (A : Option Addr) (c : Nat) (l : List Vl) (w : World) (hl : l.length ≤ 1000000) (hr : Rv w A l) (K : List Vl) (hK : kn l = K) (h0 : 0 < K.length) :
  Calls Tryz.prog 95 #[.int .i64 3, .slice A l.length c] w fun e w' => e = .returned (.agg #[.bool (K[K.length - 1]).ok, .int .i64 (K[K.length - 1]).n]) ∧ Gr w w' := by
 obtain ⟨m, hm⟩ : ∃ m, K.length = m + 1 := ⟨K.length - 1, by omega⟩
 have hmlt : m < K.length := by omega
 have hmK : K[K.length - 1] = K[m] := by congr 1; omega
 rw [hmK]; clear hmK
 have hmi : (K.length : Int) - 1 = (m : Int) := by omega
 have hmI : (m : Int) < (K.length : Int) := by omega
 have hmz : (m : Int) ≤ 1000000 := by rw [← hK] at hm; have := kn_len l; omega
 have hlen : K.length ≤ 1000000 := by rw [← hK]; exact Nat.le_trans (kn_len l) hl
 obtain ⟨hn, hn'⟩ := len_facts h0
 have hlK : (K.length : Int) ≤ 1000000 := by omega
 have hpK : (0 : Int) < (K.length : Int) := by omega
 go_enter Tryz.func95, Tryz.ntmps95
 go_wp2_with fail
 refine (known_vals_any A c l _ hl (hr.gr (Gr.alloc (Gr.refl _) _))).mono ?_; rintro e w1 ⟨A', c', rfl, hrv, hg⟩
 obtain ⟨hc, hf⟩ := hg.cells
 have z0 : w.heap.size < w1.heap.size := by have := hg.size; simp at this; omega
 have q0 : w1.cell? ⟨w.heap.size, 0, none⟩ = some (.bool false) := by go_simp
 have q1 : w1.cell? ⟨w.heap.size, 1, none⟩ = some (.int .i64 0) := by go_simp
 have f0 : w1.frozen? ⟨w.heap.size, 0, none⟩ = false := by go_simp
 have f1 : w1.frozen? ⟨w.heap.size, 1, none⟩ = false := by go_simp
 have hgw : Gr w w1 := (by repeat (first | exact Gr.refl _ | refine Gr.alloc ?_ _ | refine Gr.drew ?_ | refine Gr.setCell ?_ (by first | (simp; done) | (simp; omega) | omega) _ | refine Gr.trans ?_ (by assumption)))
 clear hc hf hg
 rw [hK] at hrv ⊢
 have HK := Lib.hid hK; clear hK
 obtain ⟨ad, hAd, hb, hx0, hx1⟩ := hrv.at h0
 subst hAd
 rw [Nat.zero_mul] at hx0 hx1
 have ha0 : ad.add 0 = ad := rfl
 rw [ha0] at hx0 hx1
 obtain ⟨ad', hAd, hb', hy0, hy1⟩ := hrv.at hmlt
 obtain rfl : ad = ad' := by injection hAd
 have HM := Lib.hid hm; clear hm hAd
 have hya : ∀ o, (w1.alloc o).cell? (ad.add (m * 2)) = some (.bool K[m].ok) := fun o => (Gr.cell (Gr.alloc (Gr.refl _) o) (by rw [add_blk]; exact hb)).trans hy0
 have hyb : ∀ o, (w1.alloc o).cell? ⟨(ad.add (m * 2)).block, (ad.add (m * 2)).off + 1, none⟩ = some (.int .i64 K[m].n) := fun o => (Gr.cell (Gr.alloc (Gr.refl _) o) (by rw [add_blk]; exact hb)).trans hy1
 go_wp2
 exact bodyPost_ret (v := .agg #[.bool K[m].ok, .int .i64 K[m].n]) (by simp [results, Tryz.results95, go_sem, *]) rfl ⟨rfl, (by repeat (first | exact Gr.refl _ | refine Gr.alloc ?_ _ | refine Gr.drew ?_ | refine Gr.setCell ?_ (by first | (simp; done) | (simp; omega) | omega) _ | refine Gr.trans ?_ (by assumption)))⟩
set_option maxRecDepth 100000 in
set_option maxHeartbeats 1600000 in
theorem of_max (A : Option Addr) (c : Nat) (l : List Vl) (w : World) (hl : l.length ≤ 1000000) (hr : Rv w A l) (K : List Vl) (hK : kn l = K) (h0 : 0 < K.length) :
  Calls Tryz.prog 95 #[.int .i64 4, .slice A l.length c] w fun e w' => e = .returned (.agg #[.bool (maxV K[0] K).ok, .int .i64 (maxV K[0] K).n]) ∧ Gr w w' := by
 obtain ⟨x, hx⟩ : ∃ x, K[0] = x := ⟨_, rfl⟩
 rw [hx]
 have hlen : K.length ≤ 1000000 := by rw [← hK]; exact Nat.le_trans (kn_len l) hl
 obtain ⟨hn, hn'⟩ := len_facts h0
 have hlK : (K.length : Int) ≤ 1000000 := by omega
 have hpK : (0 : Int) < (K.length : Int) := by omega
 go_enter Tryz.func95, Tryz.ntmps95
 go_wp2_with fail
 refine (known_vals_any A c l _ hl (hr.gr (Gr.alloc (Gr.refl _) _))).mono ?_; rintro e w1 ⟨A', c', rfl, hrv, hg⟩
 obtain ⟨hc, hf⟩ := hg.cells
 have z0 : w.heap.size < w1.heap.size := by have := hg.size; simp at this; omega
 have q0 : w1.cell? ⟨w.heap.size, 0, none⟩ = some (.bool false) := by go_simp
 have q1 : w1.cell? ⟨w.heap.size, 1, none⟩ = some (.int .i64 0) := by go_simp
 have f0 : w1.frozen? ⟨w.heap.size, 0, none⟩ = false := by go_simp
 have f1 : w1.frozen? ⟨w.heap.size, 1, none⟩ = false := by go_simp
 have hgw : Gr w w1 := (by repeat (first | exact Gr.refl _ | refine Gr.alloc ?_ _ | refine Gr.drew ?_ | refine Gr.setCell ?_ (by first | (simp; done) | (simp; omega) | omega) _ | refine Gr.trans ?_ (by assumption)))
 clear hc hf hg
 rw [hK] at hrv ⊢
 have HK := Lib.hid hK; clear hK
 obtain ⟨ad, hAd, hb, hx0, hx1⟩ := hrv.at h0
 subst hAd
 rw [Nat.zero_mul] at hx0 hx1
 have ha0 : ad.add 0 = ad := rfl
 rw [ha0] at hx0 hx1
 rw [hx] at hx0 hx1
 have HX := Lib.hid hx; clear hx
 go_wp2
 go_loopw [45] (fun i wr => ∃ (k : Nat) (b : Vl), k ≤ K.length ∧ i = .int .i64 k ∧ Gr w1 wr ∧ w1.heap.size < wr.heap.size ∧
   wr.cell? ⟨w1.heap.size, 0, none⟩ = some (.bool b.ok) ∧ wr.cell? ⟨w1.heap.size, 1, none⟩ = some (.int .i64 b.n) ∧
   wr.frozen? ⟨w1.heap.size, 0, none⟩ = false ∧ wr.frozen? ⟨w1.heap.size, 1, none⟩ = false ∧ b = maxV x (K.take k))
  (fun i _ => K.length - (intOf i).toNat)
 case atStart => exact ⟨0, x, Nat.zero_le _, rfl, (by repeat (first | exact Gr.refl _ | refine Gr.alloc ?_ _ | refine Gr.drew ?_ | refine Gr.setCell ?_ (by first | (simp; done) | (simp; omega) | omega) _ | refine Gr.trans ?_ (by assumption))), by simp, by go_simp, by go_simp, by go_simp, by go_simp, rfl⟩
 case round =>
  obtain ⟨k, b, hk, rfl, hgr, hzr, a0, a1, af0, af1, hbm⟩ := hrel
  by_cases hlt : k < K.length
  ·
   obtain ⟨ad', hAd, hb', hy0, hy1⟩ := (hrv.gr hgr).at hlt
   obtain rfl : ad = ad' := by injection hAd
   have Ht := max_take (x := x) hlt
   rw [← hbm] at Ht
   clear hbm hAd
   cases hlb : lessB b K[k]
   ·
    rw [hlb] at Ht
    have HT := Lib.hid Ht; clear Ht
    go_wp2_with fail
    refine (less_any b K[k] _).mono ?_; rintro e w2 ⟨rfl, hg2⟩; obtain ⟨hc2, hf2⟩ := hg2.cells; have hz2 := hg2.size; (try simp at hz2)
    have y2 : w1.heap.size < w2.heap.size := (by omega)
    have y3 : w1.heap.size < wr.heap.size + 1 := (by omega)
    go_wp2
    go_roundw
    case rel => exact ⟨k + 1, b, by omega, by go_num, (by repeat (first | exact Gr.refl _ | refine Gr.alloc ?_ _ | refine Gr.drew ?_ | refine Gr.setCell ?_ (by first | (simp; done) | (simp; omega) | omega) _ | refine Gr.trans ?_ (by assumption))), by omega, by go_simp, by go_simp, by go_simp, by go_simp, HT.out.symm⟩
    case measure => simp [intOf]; omega
   ·
    rw [hlb] at Ht
    have HT := Lib.hid Ht; clear Ht
    go_wp2_with fail
    refine (less_any b K[k] _).mono ?_; rintro e w2 ⟨rfl, hg2⟩; obtain ⟨hc2, hf2⟩ := hg2.cells; have hz2 := hg2.size; (try simp at hz2)
    have y2 : w1.heap.size < w2.heap.size := (by omega)
    have y3 : w1.heap.size < wr.heap.size + 1 := (by omega)
    go_wp2
    go_roundw
    case rel => exact ⟨k + 1, K[k], by omega, by go_num, (by repeat (first | exact Gr.refl _ | refine Gr.alloc ?_ _ | refine Gr.drew ?_ | refine Gr.setCell ?_ (by first | (simp; done) | (simp; omega) | omega) _ | refine Gr.trans ?_ (by assumption))), by simp; omega, by go_simp, by go_simp, by go_simp, by go_simp, HT.out.symm⟩
    case measure => simp [intOf]; omega
  ·
   have hkk : k = K.length := by omega
   subst hkk
   rw [List.take_length] at hbm
   subst hbm
   have x0 := (hgr.cell (p := ⟨w.heap.size, 0, none⟩) z0).trans q0
   have x1 := (hgr.cell (p := ⟨w.heap.size, 1, none⟩) z0).trans q1
   have y0 := (hgr.frozen (p := ⟨w.heap.size, 0, none⟩) z0).trans f0
   have y1 := (hgr.frozen (p := ⟨w.heap.size, 1, none⟩) z0).trans f1
   go_wp2
   exact bodyPost_ret (v := .agg #[.bool (maxV x K).ok, .int .i64 (maxV x K).n]) (by simp [results, Tryz.results95, go_sem, *]) rfl ⟨rfl, (by repeat (first | exact Gr.refl _ | refine Gr.alloc ?_ _ | refine Gr.drew ?_ | refine Gr.setCell ?_ (by first | (simp; done) | (simp; omega) | omega) _ | refine Gr.trans ?_ (by assumption)))⟩
set_option maxRecDepth 100000 in
set_option maxHeartbeats 1600000 in
theorem of_min (A : Option Addr) (c : Nat) (l : List Vl) (w : World) (hl : l.length ≤ 1000000) (hr : Rv w A l) (K : List Vl) (hK : kn l = K) (h0 : 0 < K.length) :
  Calls Tryz.prog 95 #[.int .i64 5, .slice A l.length c] w fun e w' => e = .returned (.agg #[.bool (minV K[0] K).ok, .int .i64 (minV K[0] K).n]) ∧ Gr w w' := by
 obtain ⟨x, hx⟩ : ∃ x, K[0] = x := ⟨_, rfl⟩
 rw [hx]
 have hlen : K.length ≤ 1000000 := by rw [← hK]; exact Nat.le_trans (kn_len l) hl
 obtain ⟨hn, hn'⟩ := len_facts h0
 have hlK : (K.length : Int) ≤ 1000000 := by omega
 have hpK : (0 : Int) < (K.length : Int) := by omega
 go_enter Tryz.func95, Tryz.ntmps95
 go_wp2_with fail
 refine (known_vals_any A c l _ hl (hr.gr (Gr.alloc (Gr.refl _) _))).mono ?_; rintro e w1 ⟨A', c', rfl, hrv, hg⟩
 obtain ⟨hc, hf⟩ := hg.cells
 have z0 : w.heap.size < w1.heap.size := by have := hg.size; simp at this; omega
 have q0 : w1.cell? ⟨w.heap.size, 0, none⟩ = some (.bool false) := by go_simp
 have q1 : w1.cell? ⟨w.heap.size, 1, none⟩ = some (.int .i64 0) := by go_simp
 have f0 : w1.frozen? ⟨w.heap.size, 0, none⟩ = false := by go_simp
 have f1 : w1.frozen? ⟨w.heap.size, 1, none⟩ = false := by go_simp
 have hgw : Gr w w1 := (by repeat (first | exact Gr.refl _ | refine Gr.alloc ?_ _ | refine Gr.drew ?_ | refine Gr.setCell ?_ (by first | (simp; done) | (simp; omega) | omega) _ | refine Gr.trans ?_ (by assumption)))
 clear hc hf hg
 rw [hK] at hrv ⊢
 have HK := Lib.hid hK; clear hK
 obtain ⟨ad, hAd, hb, hx0, hx1⟩ := hrv.at h0
 subst hAd
 rw [Nat.zero_mul] at hx0 hx1
 have ha0 : ad.add 0 = ad := rfl
 rw [ha0] at hx0 hx1
 rw [hx] at hx0 hx1
 have HX := Lib.hid hx; clear hx
 go_wp2
 go_loopw [59] (fun i wr => ∃ (k : Nat) (b : Vl), k ≤ K.length ∧ i = .int .i64 k ∧ Gr w1 wr ∧ w1.heap.size < wr.heap.size ∧
   wr.cell? ⟨w1.heap.size, 0, none⟩ = some (.bool b.ok) ∧ wr.cell? ⟨w1.heap.size, 1, none⟩ = some (.int .i64 b.n) ∧
   wr.frozen? ⟨w1.heap.size, 0, none⟩ = false ∧ wr.frozen? ⟨w1.heap.size, 1, none⟩ = false ∧ b = minV x (K.take k))
  (fun i _ => K.length - (intOf i).toNat)
 case atStart => exact ⟨0, x, Nat.zero_le _, rfl, (by repeat (first | exact Gr.refl _ | refine Gr.alloc ?_ _ | refine Gr.drew ?_ | refine Gr.setCell ?_ (by first | (simp; done) | (simp; omega) | omega) _ | refine Gr.trans ?_ (by assumption))), by simp, by go_simp, by go_simp, by go_simp, by go_simp, rfl⟩
 case round =>
  obtain ⟨k, b, hk, rfl, hgr, hzr, a0, a1, af0, af1, hbm⟩ := hrel
  by_cases hlt : k < K.length
  ·
   obtain ⟨ad', hAd, hb', hy0, hy1⟩ := (hrv.gr hgr).at hlt
   obtain rfl : ad = ad' := by injection hAd
   have Ht := min_take (x := x) hlt
   rw [← hbm] at Ht
   clear hbm hAd
   cases hlb : lessB K[k] b
   ·
    rw [hlb] at Ht
    have HT := Lib.hid Ht; clear Ht
    go_wp2_with fail
    refine (less_any K[k] b _).mono ?_; rintro e w2 ⟨rfl, hg2⟩; obtain ⟨hc2, hf2⟩ := hg2.cells; have hz2 := hg2.size; (try simp at hz2)
    have y2 : w1.heap.size < w2.heap.size := (by omega)
    have y3 : w1.heap.size < wr.heap.size + 1 := (by omega)
    go_wp2
    go_roundw
    case rel => exact ⟨k + 1, b, by omega, by go_num, (by repeat (first | exact Gr.refl _ | refine Gr.alloc ?_ _ | refine Gr.drew ?_ | refine Gr.setCell ?_ (by first | (simp; done) | (simp; omega) | omega) _ | refine Gr.trans ?_ (by assumption))), by omega, by go_simp, by go_simp, by go_simp, by go_simp, HT.out.symm⟩
    case measure => simp [intOf]; omega
   ·
    rw [hlb] at Ht
    have HT := Lib.hid Ht; clear Ht
    go_wp2_with fail
    refine (less_any K[k] b _).mono ?_; rintro e w2 ⟨rfl, hg2⟩; obtain ⟨hc2, hf2⟩ := hg2.cells; have hz2 := hg2.size; (try simp at hz2)
    have y2 : w1.heap.size < w2.heap.size := (by omega)
    have y3 : w1.heap.size < wr.heap.size + 1 := (by omega)
    go_wp2
    go_roundw
    case rel => exact ⟨k + 1, K[k], by omega, by go_num, (by repeat (first | exact Gr.refl _ | refine Gr.alloc ?_ _ | refine Gr.drew ?_ | refine Gr.setCell ?_ (by first | (simp; done) | (simp; omega) | omega) _ | refine Gr.trans ?_ (by assumption))), by simp; omega, by go_simp, by go_simp, by go_simp, by go_simp, HT.out.symm⟩
    case measure => simp [intOf]; omega
  ·
   have hkk : k = K.length := by omega
   subst hkk
   rw [List.take_length] at hbm
   subst hbm
   have x0 := (hgr.cell (p := ⟨w.heap.size, 0, none⟩) z0).trans q0
   have x1 := (hgr.cell (p := ⟨w.heap.size, 1, none⟩) z0).trans q1
   have y0 := (hgr.frozen (p := ⟨w.heap.size, 0, none⟩) z0).trans f0
   have y1 := (hgr.frozen (p := ⟨w.heap.size, 1, none⟩) z0).trans f1
   go_wp2
   exact bodyPost_ret (v := .agg #[.bool (minV x K).ok, .int .i64 (minV x K).n]) (by simp [results, Tryz.results95, go_sem, *]) rfl ⟨rfl, (by repeat (first | exact Gr.refl _ | refine Gr.alloc ?_ _ | refine Gr.drew ?_ | refine Gr.setCell ?_ (by first | (simp; done) | (simp; omega) | omega) _ | refine Gr.trans ?_ (by assumption)))⟩
set_option maxRecDepth 100000 in
set_option maxHeartbeats 1600000 in
theorem of_other (kind : Int) (e1 : (kind == 1) = false) (e2 : (kind == 2) = false) (e3 : (kind == 3) = false) (e4 : (kind == 4) = false) (e5 : (kind == 5) = false) (A : Option Addr) (c : Nat) (l : List Vl) (w : World) (hl : l.length ≤ 1000000) (hr : Rv w A l) (K : List Vl) (hK : kn l = K) (h0 : 0 < K.length) :
  Calls Tryz.prog 95 #[.int .i64 kind, .slice A l.length c] w fun e w' => e = .returned (.agg #[.bool (⟨false, 0⟩ : Vl).ok, .int .i64 (⟨false, 0⟩ : Vl).n]) ∧ Gr w w' := by
 have hlen : K.length ≤ 1000000 := by rw [← hK]; exact Nat.le_trans (kn_len l) hl
 obtain ⟨hn, hn'⟩ := len_facts h0
 have hlK : (K.length : Int) ≤ 1000000 := by omega
 have hpK : (0 : Int) < (K.length : Int) := by omega
 go_enter Tryz.func95, Tryz.ntmps95
 go_wp2_with fail
 refine (known_vals_any A c l _ hl (hr.gr (Gr.alloc (Gr.refl _) _))).mono ?_; rintro e w1 ⟨A', c', rfl, hrv, hg⟩
 obtain ⟨hc, hf⟩ := hg.cells
 have z0 : w.heap.size < w1.heap.size := by have := hg.size; simp at this; omega
 have q0 : w1.cell? ⟨w.heap.size, 0, none⟩ = some (.bool false) := by go_simp
 have q1 : w1.cell? ⟨w.heap.size, 1, none⟩ = some (.int .i64 0) := by go_simp
 have f0 : w1.frozen? ⟨w.heap.size, 0, none⟩ = false := by go_simp
 have f1 : w1.frozen? ⟨w.heap.size, 1, none⟩ = false := by go_simp
 have hgw : Gr w w1 := (by repeat (first | exact Gr.refl _ | refine Gr.alloc ?_ _ | refine Gr.drew ?_ | refine Gr.setCell ?_ (by first | (simp; done) | (simp; omega) | omega) _ | refine Gr.trans ?_ (by assumption)))
 clear hc hf hg
 rw [hK] at hrv ⊢
 have HK := Lib.hid hK; clear hK
 obtain ⟨ad, hAd, hb, hx0, hx1⟩ := hrv.at h0
 subst hAd
 rw [Nat.zero_mul] at hx0 hx1
 have ha0 : ad.add 0 = ad := rfl
 rw [ha0] at hx0 hx1
 go_wp2
 exact bodyPost_ret (v := .agg #[.bool false, .int .i64 0]) (by simp [results, Tryz.results95, go_sem, *]) rfl ⟨rfl, (by repeat (first | exact Gr.refl _ | refine Gr.alloc ?_ _ | refine Gr.drew ?_ | refine Gr.setCell ?_ (by first | (simp; done) | (simp; omega) | omega) _ | refine Gr.trans ?_ (by assumption)))⟩
theorem agg_of_any (kind : Int) (A : Option Addr) (c : Nat) (l : List Vl) (w : World) (hl : l.length ≤ 1000000) (hr : Rv w A l) :
  Calls Tryz.prog 95 #[.int .i64 kind, .slice A l.length c] w fun e w' => e = .returned (.agg #[.bool (aggV kind l).ok, .int .i64 (aggV kind l).n]) ∧ Gr w w' := by
 by_cases h0 : 0 < (kn l).length
 ·
  by_cases k2 : kind = 2
  ·
   subst k2
   have hv : aggV 2 l = addV (kn l) := by simp [aggV, ofK, h0]
   rw [hv]; exact of_sum A c l w hl hr _ rfl h0
  by_cases k1 : kind = 1
  ·
   subst k1
   have hv : aggV 1 l = divV (addV (kn l)) (intV ((kn l).length : Nat)) := by simp [aggV, ofK, h0]
   rw [hv]; exact of_avg A c l w hl hr _ rfl h0
  by_cases k3 : kind = 3
  ·
   subst k3
   have hv : aggV 3 l = (kn l)[(kn l).length - 1] := by simp [aggV, ofK, h0]
   rw [hv]; exact of_last A c l w hl hr _ rfl h0
  by_cases k4 : kind = 4
  ·
   subst k4
   have hv : aggV 4 l = maxV (kn l)[0] (kn l) := by simp [aggV, ofK, h0]
   rw [hv]; exact of_max A c l w hl hr _ rfl h0
  by_cases k5 : kind = 5
  ·
   subst k5
   have hv : aggV 5 l = minV (kn l)[0] (kn l) := by simp [aggV, ofK, h0]
   rw [hv]; exact of_min A c l w hl hr _ rfl h0
  have hv : aggV kind l = ⟨false, 0⟩ := by simp [aggV, ofK, h0, k1, k2, k3, k4, k5]
  rw [hv]; exact of_other kind (beq_eq_false_iff_ne.2 k1) (beq_eq_false_iff_ne.2 k2) (beq_eq_false_iff_ne.2 k3) (beq_eq_false_iff_ne.2 k4) (beq_eq_false_iff_ne.2 k5) A c l w hl hr _ rfl h0
 ·
  have hv : aggV kind l = ⟨false, 0⟩ := by simp [aggV, ofK, h0]
  rw [hv]; exact of_nil kind A c l w hl hr (by omega)
end Go.Proofs.YtbdichmkgcngbaaGreat
namespace Go.Proofs.YtbdichmkgcngbaaGreat
set_option linter.unusedVariables false
set_option linter.unusedSimpArgs false
open Go.RowKit

/-- An api.Series. -/
structure Sr where
 name : ByteArray
 start : Int
 step : Int
 vals : List Vl
 cons : Int

def isS (s : Sr) : Bool :=
 decide ((s.name.size : Int) ≤ 4096) && (decide (0 ≤ s.start) && (decide (s.start ≤ 4294967295) && (decide (1 ≤ s.step) && (decide (s.step ≤ 1099511627776) && (decide ((s.vals.length : Int) ≤ 131072) && (decide (0 ≤ s.cons) && (decide (s.cons ≤ 5) && s.vals.all isB)))))))
structure Ok (s : Sr) : Prop where
 name : (s.name.size : Int) ≤ 4096
 s0 : 0 ≤ s.start
 s1 : s.start ≤ 4294967295
 p0 : 1 ≤ s.step
 p1 : s.step ≤ 1099511627776
 len : (s.vals.length : Int) ≤ 131072
 c0 : 0 ≤ s.cons
 c1 : s.cons ≤ 5
 all : s.vals.all isB = true
theorem isS_iff (s : Sr) : isS s = true ↔ Ok s := by
 unfold isS
 simp only [Bool.and_eq_true, decide_eq_true_eq]
 constructor
 ·
  rintro ⟨a, b, c, d, e, f, g, h, i⟩; exact ⟨a, b, c, d, e, f, g, h, i⟩
 ·
  rintro ⟨a, b, c, d, e, f, g, h, i⟩; exact ⟨a, b, c, d, e, f, g, h, i⟩
def endS (s : Sr) : Int := if isS s = true then s.start + s.vals.length * s.step else 0
def consS (s : Sr) : Int := if isS s = true then (if s.cons = 0 then 1 else s.cons) else 1
/-- how many of its values stand ahead of a time. -/
def plS (s : Sr) (t : Int) : Nat := if t ≤ s.start then 0 else min s.vals.length ((t - s.start - 1) / s.step + 1).toNat
def withinS (s : Sr) (a b : Int) : List Vl := (s.vals.take (plS s b)).drop (plS s a)
def fitOk (s : Sr) (start step n : Int) : Bool := isS s && (decide (1 ≤ step) && (decide (step ≤ 1099511627776) && (decide (0 ≤ n) && (decide (n ≤ 131072) && (decide (0 ≤ start) && decide (start ≤ 4294967295))))))
def fitV (s : Sr) (start step : Int) (k : Nat) : Vl := aggV (consS s) (withinS s (start + k * step) (start + k * step + step))
def fitL (s : Sr) (start step : Int) (n : Nat) : List Vl := (List.range n).map (fitV s start step)
def fitS (s : Sr) (start step n : Int) : Sr := if fitOk s start step n = true then ⟨s.name, start, step, fitL s start step n.toNat, s.cons⟩ else s
theorem fitL_len (s : Sr) (start step : Int) (n : Nat) : (fitL s start step n).length = n := by simp [fitL]
theorem fitL_succ (s : Sr) (start step : Int) (n : Nat) : fitL s start step (n + 1) = fitL s start step n ++ [fitV s start step n] := by simp [fitL, List.range_succ]

theorem plS_le (s : Sr) (t : Int) : plS s t ≤ s.vals.length := by unfold plS; split <;> omega
/-- which values stand ahead of a time. -/
theorem lt_plS {s : Sr} (hp : 1 ≤ s.step) (t : Int) {i : Nat} (hi : i < s.vals.length) : (i < plS s t ↔ s.start + i * s.step < t) := by
 unfold plS
 have hi0 : (0 : Int) ≤ (i : Int) * s.step := Int.mul_nonneg (by omega) (by omega)
 split
 ·
  constructor <;> intro h <;> omega
 ·
  rename_i h
  have hd : ((t - s.start - 1) / s.step + 1).toNat = ((t - s.start - 1) / s.step).toNat + 1 := by
   have := Int.ediv_nonneg (a := t - s.start - 1) (b := s.step) (by omega) (by omega)
   omega
  have key : (i : Int) ≤ (t - s.start - 1) / s.step ↔ (i : Int) * s.step ≤ t - s.start - 1 := Int.le_ediv_iff_mul_le (by omega)
  have hn := Int.ediv_nonneg (a := t - s.start - 1) (b := s.step) (by omega) (by omega)
  rw [hd]
  constructor
  ·
   intro h1
   have := key.1 (by omega)
   omega
  ·
   intro h1
   have := key.2 (by omega)
   omega
theorem plS_mono {s : Sr} (hp : 1 ≤ s.step) {a b : Int} (h : a ≤ b) : plS s a ≤ plS s b := by
 rcases Nat.lt_or_ge (plS s b) (plS s a) with hlt | hge
 ·
  have hi : plS s b < s.vals.length := Nat.lt_of_lt_of_le hlt (plS_le s a)
  have h1 := (lt_plS hp a hi).1 hlt
  have h2 : ¬ (s.start + (plS s b : Nat) * s.step < b) := fun h => absurd ((lt_plS hp b hi).2 h) (Nat.lt_irrefl _)
  omega
 ·
  exact hge
theorem drop_take_succ {l : List Vl} {p i : Nat} (hi : i < l.length) (h : p ≤ i) : (l.take (i + 1)).drop p = (l.take i).drop p ++ [l[i]] := by
 rw [List.take_succ_eq_append_getElem hi, List.drop_append_of_le_length (by simp; omega)]
theorem drop_take_none {l : List Vl} {p i : Nat} (h : i ≤ p) : (l.take i).drop p = [] := List.drop_eq_nil_of_le (by simp; omega)
theorem withinS_len (s : Sr) (a b : Int) : (withinS s a b).length = plS s b - plS s a := by
 have := plS_le s b
 simp [withinS]; omega
/-- a number by another one, rounded up. -/
def upI (n by_ : Int) : Int := (n + by_ - 1) / by_
def shrinkOk (s : Sr) (most : Int) : Bool := isS s && (decide (1 ≤ most) && decide (most < (s.vals.length : Int)))
def shrinkS (s : Sr) (most : Int) : Sr :=
 if shrinkOk s most = true then (if 1099511627776 / upI s.vals.length most < s.step then s else fitS s s.start (upI s.vals.length most * s.step) (upI s.vals.length (upI s.vals.length most))) else s
end Go.Proofs.YtbdichmkgcngbaaGreat
namespace Go.Proofs.YtbdichmkgcngbaaGreat
set_option linter.unusedVariables false
set_option linter.unusedSimpArgs false
open Go.RowKit

theorem plS_mult {s : Sr} (hp : 1 ≤ s.step) (j : Nat) : plS s (s.start + j * s.step) = min s.vals.length j := by
 have hle := plS_le s (s.start + j * s.step)
 apply Nat.le_antisymm
 ·
  refine Nat.le_min.2 ⟨hle, ?_⟩
  rcases Nat.lt_or_ge j (plS s (s.start + j * s.step)) with hlt | hge
  ·
   have hi : j < s.vals.length := by omega
   have := (lt_plS hp _ hi).1 hlt
   omega
  ·
   exact hge
 ·
  rcases Nat.lt_or_ge (plS s (s.start + j * s.step)) (min s.vals.length j) with hlt | hge
  ·
   have hi : plS s (s.start + j * s.step) < s.vals.length := by omega
   have h2 : ¬ (s.start + (plS s (s.start + j * s.step) : Nat) * s.step < s.start + j * s.step) := fun h => Nat.lt_irrefl _ ((lt_plS hp _ hi).2 h)
   have h3 : ((plS s (s.start + j * s.step) : Nat) : Int) * s.step < j * s.step := Int.mul_lt_mul_of_pos_right (by omega) (by omega)
   omega
  ·
   exact hge
theorem within_mult {s : Sr} (hp : 1 ≤ s.step) (a b : Nat) : withinS s (s.start + a * s.step) (s.start + b * s.step) = (s.vals.take b).drop a := by
 unfold withinS
 rw [plS_mult hp, plS_mult hp]
 apply List.ext_getElem?
 intro i
 simp only [List.getElem?_drop, List.getElem?_take]
 by_cases ha : a ≤ s.vals.length
 ·
  rw [Nat.min_eq_right ha]
  by_cases hb : b ≤ s.vals.length
  ·
   rw [Nat.min_eq_right hb]
  ·
   rw [Nat.min_eq_left (by omega)]
   by_cases h : a + i < s.vals.length
   ·
    rw [if_pos h, if_pos (by omega)]
   ·
    rw [if_neg h, List.getElem?_eq_none (by omega)]; split <;> rfl
 ·
  rw [Nat.min_eq_left (by omega), List.getElem?_eq_none (l := s.vals) (i := s.vals.length + i) (by omega), List.getElem?_eq_none (l := s.vals) (i := a + i) (by omega)]
  simp

theorem mdV_isB (a b c : Int) : isB (mdV a b c) = true := by
 unfold mdV; cases mdOk a b c
 ·
  rfl
 ·
  exact ofV_isB _
theorem sumV_isB (a b : Vl) : isB (sumV a b) = true := by
 unfold sumV; cases knB a && knB b
 ·
  rfl
 ·
  exact ofV_isB _
theorem divV_isB (a b : Vl) : isB (divV a b) = true := by
 unfold divV; cases knB a && knB b
 ·
  rfl
 ·
  exact mdV_isB _ _ _
theorem fold_isB (l : List Vl) : ∀ x, isB x = true → isB (l.foldl sumV x) = true := by
 induction l with
 | nil => intro x h; exact h
 | cons v l ih => intro x _; exact ih _ (sumV_isB _ _)
theorem addV_isB (l : List Vl) : isB (addV l) = true := fold_isB l _ (ofV_isB _)
theorem maxV_isB (l : List Vl) : ∀ x, isB x = true → (∀ v ∈ l, isB v = true) → isB (maxV x l) = true := by
 induction l with
 | nil => intro x h _; exact h
 | cons v l ih =>
  intro x h hl
  refine ih _ ?_ (fun u hu => hl u (List.mem_cons_of_mem _ hu))
  show isB (bif lessB x v then v else x) = true
  cases lessB x v
  ·
   exact h
  ·
   exact hl v (List.mem_cons_self ..)
theorem minV_isB (l : List Vl) : ∀ x, isB x = true → (∀ v ∈ l, isB v = true) → isB (minV x l) = true := by
 induction l with
 | nil => intro x h _; exact h
 | cons v l ih =>
  intro x h hl
  refine ih _ ?_ (fun u hu => hl u (List.mem_cons_of_mem _ hu))
  show isB (bif lessB v x then v else x) = true
  cases lessB v x
  ·
   exact h
  ·
   exact hl v (List.mem_cons_self ..)
theorem knB_isB {v : Vl} (h : knB v = true) : isB v = true := by
 unfold knB at h; rw [Bool.and_eq_true] at h; exact h.2
theorem aggV_isB (kind : Int) (l : List Vl) : isB (aggV kind l) = true := by
 have hK : ∀ v ∈ kn l, isB v = true := fun v hv => knB_isB (List.mem_filter.1 hv).2
 unfold aggV ofK
 generalize kn l = K at hK
 repeat' split
 ·
  exact addV_isB _
 ·
  exact divV_isB _ _
 ·
  exact hK _ (List.getElem_mem _)
 ·
  exact maxV_isB _ _ (hK _ (List.getElem_mem _)) hK
 ·
  exact minV_isB _ _ (hK _ (List.getElem_mem _)) hK
 ·
  rfl
 ·
  rfl

theorem lessB_irr (v : Vl) : lessB v v = false := by simp [lessB]
theorem isB_none {v : Vl} (h : isB v = true) (hk : knB v = false) : v = ⟨false, 0⟩ := by
 obtain ⟨ok, n⟩ := v
 cases ok
 ·
  simp [isB] at h; rw [h]
 ·
  simp [knB, h] at hk
theorem rq_one (m : Nat) : rq (m * 1000000) 1000000 = m := by
 unfold rq
 rw [Nat.mul_mod_left, Nat.mul_div_cancel _ (Nat.succ_pos _), if_neg (by omega), Nat.add_zero]
theorem md_one {n : Int} (h0 : -4611686018427387904 ≤ n) (h1 : n ≤ 4611686018427387904) : mdV n 1000000 1000000 = ⟨true, n⟩ := by
 have hr : rq (n.natAbs * (1000000 : Int).natAbs) (1000000 : Int).natAbs = n.natAbs := rq_one n.natAbs
 have hok : mdOk n 1000000 1000000 = true := mdOk_yes (by omega) (by rw [hr]; omega)
 have hneg : mdNeg n 1000000 1000000 = decide (n < 0) := by
  unfold mdNeg
  generalize hd : decide ((1000000 : Int) < 0) = d
  cases decide (n < 0) <;> cases d <;> rfl
 have hn : mdN n 1000000 1000000 = n := by
  unfold mdN
  rw [hok, hr, hneg]
  by_cases hneg : n < 0
  ·
   rw [decide_eq_true hneg]; show -(n.natAbs : Int) = n; omega
  ·
   rw [decide_eq_false hneg]; show (n.natAbs : Int) = n; omega
 unfold mdV
 rw [hok, hn]
 exact ofV_in h0 h1
theorem addV_one {v : Vl} (h : knB v = true) : addV [v] = v := by
 obtain ⟨hok, h0, h1⟩ := (knB_iff v).1 h
 show sumV (ofV 0) v = v
 have e : ofV 0 = ⟨true, 0⟩ := by rfl
 have hk : knB ⟨true, 0⟩ = true := rfl
 unfold sumV
 rw [e, hk, h]
 show ofV (0 + v.n) = v
 rw [Int.zero_add, ofV_in h0 h1, ← hok]
theorem int_one : intV 1 = ⟨true, 1000000⟩ := by
 unfold intV
 rw [decide_eq_true (by omega : (-4611686018427 : Int) ≤ 1), decide_eq_true (by omega : (1 : Int) ≤ 4611686018427)]
 have h : ofV 1000000 = ⟨true, 1000000⟩ := ofV_in (by omega) (by omega)
 rw [← h]
 rfl
theorem div_one {v : Vl} (hk : knB v = true) : divV v ⟨true, 1000000⟩ = v := by
 obtain ⟨hok, h0, h1⟩ := (knB_iff v).1 hk
 have hq : knB ⟨true, 1000000⟩ = true := (knB_iff _).2 ⟨rfl, by show (-4611686018427387904 : Int) ≤ 1000000; omega, by show (1000000 : Int) ≤ 4611686018427387904; omega⟩
 have e : divV v ⟨true, 1000000⟩ = bif knB v && knB ⟨true, 1000000⟩ then mdV v.n 1000000 1000000 else ⟨false, 0⟩ := rfl
 rw [e, hk, hq, md_one h0 h1]
 show (⟨true, v.n⟩ : Vl) = v
 rw [← hok]
/-- one value alone, in any way: itself. -/
theorem aggV_one {kind : Int} {v : Vl} (h : isB v = true) (k0 : 1 ≤ kind) (k1 : kind ≤ 5) : aggV kind [v] = v := by
 cases hk : knB v
 ·
  have e := isB_none h hk
  subst e
  simp [aggV, kn, hk, ofK]
 ·
  have e : kn [v] = [v] := by simp [kn, hk]
  unfold aggV
  rw [e]
  unfold ofK
  rw [dif_pos (by simp)]
  rcases (show kind = 1 ∨ kind = 2 ∨ kind = 3 ∨ kind = 4 ∨ kind = 5 by omega) with rfl | rfl | rfl | rfl | rfl
  ·
   rw [if_neg (by decide), if_pos rfl, addV_one hk]
   show divV v (intV 1) = v
   rw [int_one, div_one hk]
  ·
   rw [if_pos rfl, addV_one hk]
  ·
   rfl
  ·
   show maxV v [v] = v
   simp [maxV, lessB_irr]
  ·
   show minV v [v] = v
   simp [minV, lessB_irr]

theorem drop_one {l : List Vl} {i : Nat} (h : i < l.length) : (l.take (i + 1)).drop i = [l[i]] := by
 rw [drop_take_succ h (Nat.le_refl i), drop_take_none (Nat.le_refl i), List.nil_append]
theorem consS_one {s : Sr} (h : Ok s) : 1 ≤ consS s ∧ consS s ≤ 5 := by
 have := h.c0; have := h.c1
 unfold consS
 repeat' split
 all_goals omega
theorem fitV_mult {s : Sr} (hp : 1 ≤ s.step) (k i : Nat) : fitV s s.start (k * s.step) i = aggV (consS s) ((s.vals.take (i * k + k)).drop (i * k)) := by
 unfold fitV
 have e1 : s.start + (i : Int) * (k * s.step) = s.start + ((i * k : Nat) : Int) * s.step := by
  rw [← Int.mul_assoc]; simp
 have e2 : s.start + (i : Int) * (k * s.step) + k * s.step = s.start + ((i * k + k : Nat) : Int) * s.step := by
  rw [e1, Int.natCast_add, Int.add_mul]; omega
 rw [e2, e1, within_mult hp]
theorem fit_self {s : Sr} (h : Ok s) : fitL s s.start s.step s.vals.length = s.vals := by
 apply List.ext_getElem
 ·
  simp [fitL]
 ·
  intro i h1 h2
  have e := fitV_mult h.p0 1 i
  rw [show ((1 : Nat) : Int) * s.step = s.step by simp, Nat.mul_one, drop_one h2] at e
  simp only [fitL, List.getElem_map, List.getElem_range]
  rw [e]
  obtain ⟨k0, k1⟩ := consS_one h
  exact aggV_one (List.all_eq_true.1 h.all _ (List.getElem_mem _)) k0 k1
theorem fit_itself {s : Sr} (h : Ok s) : fitS s s.start s.step s.vals.length = s := by
 unfold fitS
 split
 ·
  rw [Int.toNat_natCast, fit_self h]
 ·
  rfl
end Go.Proofs.YtbdichmkgcngbaaGreat
