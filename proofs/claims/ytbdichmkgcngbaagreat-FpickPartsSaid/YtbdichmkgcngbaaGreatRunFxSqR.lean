/- The contracts of Sqrt, of the program and of the reference. · The contract of the reference's Deviation: how far values are from their middle. -/
import Derived.Test.YtbdichmkgcngbaaGreatRunFxSqM
import Derived.Outline
import Derived.Test.YtbdichmkgcngbaaGreatRunFxSub
import Derived.Test.YtbdichmkgcngbaaGreatAgOfR
import Derived.Test.YtbdichmkgcngbaaGreatRunAgKnownR
import Derived.Test.YtbdichmkgcngbaaGreatRunRegZ
import Derived.Deep.CutRange
import Derived.Test.YtbdichmkgcngbaaGreatRunFxBase
namespace Go.Proofs.YtbdichmkgcngbaaGreat
open Go.RowKit

set_option maxRecDepth 100000 in
set_option maxHeartbeats 3200000 in
theorem rsqrt_any (a : Vl) (w : World) :
  Calls Tryz.prog 72 #[.agg #[.bool a.ok, .int .i64 a.n]] w fun e w' => e = .returned (.agg #[.bool (sqrtV a).ok, .int .i64 (sqrtV a).n]) ∧ Gr w w' := by
 cases ha : knB a
 ·
  have hv : sqrtV a = ⟨false, 0⟩ := by simp [sqrtV, ha]
  rw [hv]; clear hv
  go_enter Tryz.func72, Tryz.ntmps72
  go_wp2_with fail
  refine (rkn_any a _).mono ?_; rintro e w1 ⟨rfl, hg⟩; obtain ⟨hc, hf⟩ := hg.cells; have hz := hg.size; (try simp at hz); have z0 : w.heap.size < w1.heap.size := (by omega); have z1 : w.heap.size + 1 < w1.heap.size := (by omega)
  go_wp2
  have q0 : w1.cell? ⟨w.heap.size + 1, 0, none⟩ = some (.bool false) := by go_simp
  have q1 : w1.cell? ⟨w.heap.size + 1, 1, none⟩ = some (.int .i64 0) := by go_simp
  exact bodyPost_ret (v := .agg #[.bool false, .int .i64 0]) (by simp [results, Tryz.results72, go_sem, *]) rfl ⟨rfl, (by repeat (first | exact Gr.refl _ | refine Gr.alloc ?_ _ | refine Gr.drew ?_ | refine Gr.setCell ?_ (by first | (simp; done) | (simp; omega) | omega) _ | refine Gr.trans ?_ (by assumption)))⟩
 by_cases h0 : a.n < 0
 ·
  have hv : sqrtV a = ⟨false, 0⟩ := by
   have : ¬ 0 ≤ a.n := by omega
   simp [sqrtV, ha, this]
  rw [hv]; clear hv
  go_enter Tryz.func72, Tryz.ntmps72
  go_wp2_with fail
  refine (rkn_any a _).mono ?_; rintro e w1 ⟨rfl, hg⟩; obtain ⟨hc, hf⟩ := hg.cells; have hz := hg.size; (try simp at hz); have z0 : w.heap.size < w1.heap.size := (by omega); have z1 : w.heap.size + 1 < w1.heap.size := (by omega)
  go_wp2
  have q0 : w1.cell? ⟨w.heap.size + 1, 0, none⟩ = some (.bool false) := by go_simp
  have q1 : w1.cell? ⟨w.heap.size + 1, 1, none⟩ = some (.int .i64 0) := by go_simp
  exact bodyPost_ret (v := .agg #[.bool false, .int .i64 0]) (by simp [results, Tryz.results72, go_sem, *]) rfl ⟨rfl, (by repeat (first | exact Gr.refl _ | refine Gr.alloc ?_ _ | refine Gr.drew ?_ | refine Gr.setCell ?_ (by first | (simp; done) | (simp; omega) | omega) _ | refine Gr.trans ?_ (by assumption)))⟩
 have h0' : 0 ≤ a.n := by omega
 have a2 := knB_hi ha
 obtain ⟨ok, m⟩ := a
 simp only at h0' a2 h0
 obtain ⟨N0, rfl⟩ : ∃ N0 : Nat, m = (N0 : Int) := ⟨m.toNat, by omega⟩
 have hv : sqrtV ⟨ok, (N0 : Int)⟩ = ofV (rtN (N0 * 1000000)) := by
  unfold sqrtV
  rw [ha, Int.toNat_natCast, decide_eq_true (Int.natCast_nonneg N0), Bool.and_self, cond_true]
 rw [hv]; clear hv
 obtain ⟨N, hN⟩ : ∃ N, N = N0 * 1000000 := ⟨_, rfl⟩
 have hN84 : N < 2 ^ 84 := by
  have : (2 : Nat) ^ 84 = 19342813113834066795298816 := by decide
  omega
 have M0' := times_any N0 1000000 (by omega) (by omega)
 rw [← hN] at M0' ⊢
 obtain ⟨H, hH⟩ : ∃ H, N / 18446744073709551616 = H := ⟨_, rfl⟩
 obtain ⟨L, hL⟩ : ∃ L, N % 18446744073709551616 = L := ⟨_, rfl⟩
 rw [hH, hL] at M0'
 have M := Lib.hid M0'
 have i1 : (H : Int) ≤ 18446744073709551615 := by omega
 have i2 : (L : Int) ≤ 18446744073709551615 := by omega
 have i3 : (N0 : Int) ≤ 4611686018427387904 := by omega
 have HN := Lib.hid hN84
 have HH := Lib.hid (And.intro hH hL)
 clear M0' hN hN84 a2 h0 h0' hH hL
 go_enter Tryz.func72, Tryz.ntmps72
 go_wp2_with fail
 refine (rkn_any ⟨ok, (N0 : Int)⟩ _).mono ?_; rintro e w1 ⟨rfl, hg⟩; obtain ⟨hc, hf⟩ := hg.cells; have hz := hg.size; (try simp at hz); have z0 : w.heap.size < w1.heap.size := (by omega); have z1 : w.heap.size + 1 < w1.heap.size := (by omega)
 go_wp2_with fail
 refine (M.out _).mono ?_; rintro e w1' ⟨rfl, rfl⟩
 clear M
 go_wp2
 have q0 : w1.cell? ⟨w.heap.size + 1, 0, none⟩ = some (.bool false) := by go_simp
 have q1 : w1.cell? ⟨w.heap.size + 1, 1, none⟩ = some (.int .i64 0) := by go_simp
 have f0 : w1.frozen? ⟨w.heap.size + 1, 0, none⟩ = false := by go_simp
 have f1 : w1.frozen? ⟨w.heap.size + 1, 1, none⟩ = false := by go_simp
 have hgw : Gr w w1 := (by repeat (first | exact Gr.refl _ | refine Gr.alloc ?_ _ | refine Gr.drew ?_ | refine Gr.setCell ?_ (by first | (simp; done) | (simp; omega) | omega) _ | refine Gr.trans ?_ (by assumption)))
 clear hc hf hg
 go_loop [5, 6] (fun tn ti => ∃ (k n : Nat) (i : Int), tn = .int .u64 n ∧ ti = .int .i64 i ∧ Hid (i = (k : Int) - 1) ∧ k ≤ 42 ∧ Hid (Rt N k n)) (fun _ ti => (intOf ti + 1).toNat)
 case atStart => exact ⟨42, 0, 41, rfl, rfl, rfl, Nat.le_refl _, Rt.start HN.out⟩
 case round =>
  obtain ⟨k, n, i, rfl, rfl, hi, hk, hrt⟩ := hrel
  rcases Nat.eq_zero_or_pos k with h0 | h0
  ·
   subst h0
   obtain rfl : i = -1 := by have := hi.out; omega
   clear hi
   have hn := hrt.out.hlt
   have he := hrt.out.end_
   have i4 : (n : Int) ≤ 4398046511104 := by omega
   have O := Lib.hid (rof_any (n : Int))
   have HE := Lib.hid he
   clear hrt hn he
   go_wp2_with fail
   refine (O.out _).mono ?_; rintro e w2 ⟨rfl, hg2⟩
   have x0 : w2.cell? ⟨w.heap.size + 1, 0, none⟩ = some (.bool false) := (hg2.cell (p := ⟨w.heap.size + 1, 0, none⟩) z1).trans q0
   have x1 : w2.cell? ⟨w.heap.size + 1, 1, none⟩ = some (.int .i64 0) := (hg2.cell (p := ⟨w.heap.size + 1, 1, none⟩) z1).trans q1
   have y0 : w2.frozen? ⟨w.heap.size + 1, 0, none⟩ = false := (hg2.frozen (p := ⟨w.heap.size + 1, 0, none⟩) z1).trans f0
   have y1 : w2.frozen? ⟨w.heap.size + 1, 1, none⟩ = false := (hg2.frozen (p := ⟨w.heap.size + 1, 1, none⟩) z1).trans f1
   go_wp2
   exact bodyPost_ret (v := .agg #[.bool (ofV (n : Int)).ok, .int .i64 (ofV (n : Int)).n]) (by simp [results, Tryz.results72, go_sem, *]) rfl ⟨by rw [← HE.out], (by repeat (first | exact hgw | refine Gr.setCell ?_ (by simp) _ | refine Gr.trans ?_ (by assumption)))⟩
  ·
   obtain ⟨j, rfl⟩ : ∃ j, k = j + 1 := ⟨k - 1, by omega⟩
   obtain rfl : i = (j : Int) := by have := hi.out; omega
   obtain ⟨b, hbj⟩ : ∃ b, b = 2 ^ j := ⟨_, rfl⟩
   have j41 : (j : Int) ≤ 41 := by omega
   have hbl : b ≤ 4398046511104 := by
    rw [hbj]; exact Nat.le_trans (Nat.pow_le_pow_right (by omega) (show j ≤ 42 by omega)) (by decide)
   have eS0 : (1 : Int) * 2 ^ j = (b : Int) := by rw [hbj, Int.natCast_pow, Int.one_mul]; rfl
   have eS1 : (2 : Int) ^ j = (b : Int) := by rw [hbj, Int.natCast_pow]; rfl
   have eS : IntKind.u64.wrap (b : Int) = (b : Int) := by rw [dv_wrap, Nat.mod_eq_of_lt (by omega)]
   have eO : bits .or .u64 (n : Int) (b : Int) = ((n + b : Nat) : Int) := by
    have := or_pow (k := j) hrt.out.hd (by have := hrt.out.hlt; rw [← hbj]; omega)
    rw [← hbj] at this; exact this
   obtain ⟨x, hx⟩ : ∃ x, x = n + b := ⟨_, rfl⟩
   rw [← hx] at eO
   have hxl : x ≤ 8796093022208 := by have := hrt.out.hlt; omega
   have M2' := times_any x x (by omega) (by omega)
   have hD := dbl_le (X := x * x) HH.out.1 HH.out.2
   have hXX : x * x ≤ 8796093022208 * 8796093022208 := Nat.mul_le_mul hxl hxl
   obtain ⟨h2, hh2⟩ : ∃ h2, x * x / 18446744073709551616 = h2 := ⟨_, rfl⟩
   obtain ⟨l2, hl2⟩ : ∃ l2, x * x % 18446744073709551616 = l2 := ⟨_, rfl⟩
   rw [hh2, hl2] at M2' hD
   have M2 := Lib.hid M2'
   have i5 : (h2 : Int) ≤ 18446744073709551615 := by omega
   have i6 : (l2 : Int) ≤ 18446744073709551615 := by omega
   have HD := Lib.hid hD
   have HX := Lib.hid (show x = n + 2 ^ j by omega)
   clear M2' hD hXX hh2 hl2 hxl hbl hx
   clear hi hbj h0
   by_cases c1 : (h2 : Int) < (H : Int)
   ·
    have hy : (n + 2 ^ j) * (n + 2 ^ j) ≤ N := by rw [← HX.out]; exact HD.out.2 (Or.inl (by omega))
    have RT := Lib.hid (hrt.out.yes (by
     have h1 : 2 ^ j * 2 ^ j ≤ (n + 2 ^ j) * (n + 2 ^ j) := Nat.mul_le_mul (by omega) (by omega)
     rcases Nat.lt_or_ge j 42 with hj | hj
     ·
      exact hj
     ·
      have h3 : 2 ^ 84 ≤ 2 ^ j * 2 ^ j := by rw [← Nat.pow_add]; exact Nat.pow_le_pow_right (by omega) (by omega)
      have := HN.out; omega) hy)
    rw [← HX.out] at RT
    clear hy
    go_wp2_with fail
    refine (M2.out _).mono ?_; rintro e w1' ⟨rfl, rfl⟩
    go_wp2
    go_round
    case rel => exact ⟨j, x, (j : Int) - 1, rfl, rfl, rfl, by omega, RT.out⟩
    case measure => first | (simp [intOf]; done) | (simp [intOf]; omega)
   by_cases c2 : h2 = H
   ·
    by_cases c3 : (l2 : Int) ≤ (L : Int)
    ·
     have hy : (n + 2 ^ j) * (n + 2 ^ j) ≤ N := by rw [← HX.out]; exact HD.out.2 (Or.inr ⟨c2, by omega⟩)
     have RT := Lib.hid (hrt.out.yes (by
      have h1 : 2 ^ j * 2 ^ j ≤ (n + 2 ^ j) * (n + 2 ^ j) := Nat.mul_le_mul (by omega) (by omega)
      rcases Nat.lt_or_ge j 42 with hj | hj
      ·
       exact hj
      ·
       have h3 : 2 ^ 84 ≤ 2 ^ j * 2 ^ j := by rw [← Nat.pow_add]; exact Nat.pow_le_pow_right (by omega) (by omega)
       have := HN.out; omega) hy)
     rw [← HX.out] at RT
     clear hy
     have c2' : ((h2 : Int) == (H : Int)) = true := by simp [c2]
     have c2n : (h2 == H) = true := by simp [c2]
     clear c2
     go_wp2_with fail
     refine (M2.out _).mono ?_; rintro e w1' ⟨rfl, rfl⟩
     go_wp2
     go_round
     case rel => exact ⟨j, x, (j : Int) - 1, rfl, rfl, rfl, by omega, RT.out⟩
     case measure => first | (simp [intOf]; done) | (simp [intOf]; omega)
    ·
     have hy : ¬ (n + 2 ^ j) * (n + 2 ^ j) ≤ N := by rw [← HX.out]; intro h; have := HD.out.1 h; omega
     have RT := Lib.hid (hrt.out.no hy)
     clear hy
     have c2' : ((h2 : Int) == (H : Int)) = true := by simp [c2]
     have c2n : (h2 == H) = true := by simp [c2]
     clear c2
     go_wp2_with fail
     refine (M2.out _).mono ?_; rintro e w1' ⟨rfl, rfl⟩
     go_wp2
     go_round
     case rel => exact ⟨j, n, (j : Int) - 1, rfl, rfl, rfl, by omega, RT.out⟩
     case measure => first | (simp [intOf]; done) | (simp [intOf]; omega)
   ·
    have hy : ¬ (n + 2 ^ j) * (n + 2 ^ j) ≤ N := by rw [← HX.out]; intro h; have := HD.out.1 h; omega
    have RT := Lib.hid (hrt.out.no hy)
    clear hy
    have c2' : ((h2 : Int) == (H : Int)) = false := by simp; omega
    have c2n : (h2 == H) = false := by simp [c2]
    clear c2
    go_wp2_with fail
    refine (M2.out _).mono ?_; rintro e w1' ⟨rfl, rfl⟩
    go_wp2
    go_round
    case rel => exact ⟨j, n, (j : Int) - 1, rfl, rfl, rfl, by omega, RT.out⟩
    case measure => first | (simp [intOf]; done) | (simp [intOf]; omega)
end Go.Proofs.YtbdichmkgcngbaaGreat
namespace Go.Proofs.YtbdichmkgcngbaaGreat
open Go.RowKit
set_option linter.unusedVariables false
set_option linter.unusedSimpArgs false

set_option maxRecDepth 100000 in
set_option maxHeartbeats 3200000 in
theorem rdev_any (A : Option Addr) (c : Nat) (l : List Vl) (w : World) (hl : l.length ≤ 1000000) (hr : Rv w A l) :
  Calls Tryz.prog 37 #[.slice A l.length c] w fun e w' => e = .returned (.agg #[.bool (devV l).ok, .int .i64 (devV l).n]) ∧ Gr w w' := by
 obtain ⟨i0, hi, hz0, hz1, hz2⟩ := info_parts info_val
 have hkl := kn_len l
 go_enter Tryz.func37, Tryz.ntmps37
 go_wp2_with fail
 refine (rknown_vals_any A c l _ hl ?hr).mono ?_
 case hr => exact hr.gr (by repeat (first | exact Gr.refl _ | refine Gr.alloc ?_ _ | refine Gr.drew ?_ | refine Gr.setCell ?_ (by first | (simp; done) | (simp; omega) | omega) _ | refine Gr.trans ?_ (by assumption)))
 rintro e w1 ⟨A1, c1, rfl, hr1, hg1⟩
 have z1 := hg1.size
 simp at z1
 have z0 : w.heap.size < w1.heap.size := by omega
 have p0 : w1.cell? ⟨w.heap.size, 0, none⟩ = some (.bool false) := (hg1.cell (p := ⟨w.heap.size, 0, none⟩) (by simp)).trans (by go_simp)
 have p1 : w1.cell? ⟨w.heap.size, 1, none⟩ = some (.int .i64 0) := (hg1.cell (p := ⟨w.heap.size, 1, none⟩) (by simp)).trans (by go_simp)
 have f0 : w1.frozen? ⟨w.heap.size, 0, none⟩ = false := (hg1.frozen (p := ⟨w.heap.size, 0, none⟩) (by simp)).trans (by go_simp)
 have f1 : w1.frozen? ⟨w.heap.size, 1, none⟩ = false := (hg1.frozen (p := ⟨w.heap.size, 1, none⟩) (by simp)).trans (by go_simp)
 have hgw1 : Gr w w1 := (by repeat (first | exact Gr.refl _ | refine Gr.alloc ?_ _ | refine Gr.drew ?_ | refine Gr.setCell ?_ (by first | (simp; done) | (simp; omega) | omega) _ | refine Gr.trans ?_ (by assumption)))
 clear hg1 z1
 go_wp2_with fail
 refine (ragg_of_any 1 A1 c1 (kn l) _ (by omega) hr1).mono ?_
 rintro e w2 ⟨rfl, hg2⟩
 obtain ⟨M, hM⟩ : ∃ M, aggV 1 (kn l) = M := ⟨_, rfl⟩
 have HSQ : Hid (sqL l = (kn l).map (sqF M)) := Lib.hid (by rw [← hM]; rfl)
 rw [hM]
 clear hM
 replace p0 := (hg2.cell (p := ⟨w.heap.size, 0, none⟩) z0).trans p0
 replace p1 := (hg2.cell (p := ⟨w.heap.size, 1, none⟩) z0).trans p1
 replace f0 := (hg2.frozen (p := ⟨w.heap.size, 0, none⟩) z0).trans f0
 replace f1 := (hg2.frozen (p := ⟨w.heap.size, 1, none⟩) z0).trans f1
 have z2 : w.heap.size < w2.heap.size := Nat.lt_of_lt_of_le z0 hg2.size
 have hr2 := hr1.gr hg2
 have hgw2 := Gr.trans hgw1 hg2
 obtain ⟨K, hK⟩ : ∃ K, kn l = K := ⟨_, rfl⟩
 obtain ⟨SQ, hSQ⟩ : ∃ SQ, sqL l = SQ := ⟨_, rfl⟩
 have hlen : SQ.length = K.length := by rw [← hK, ← hSQ]; exact sqL_len l
 have hK6 : K.length ≤ 1000000 := by rw [← hK]; omega
 have HQ : Hid (∀ k (h : k < K.length) (h' : k < SQ.length), SQ[k] = mulV (subV K[k] M) (subV K[k] M)) := Lib.hid (fun k h h' => by subst hK hSQ; exact map_at HSQ.out h h')
 have HN : Hid (∀ k (h : k < SQ.length), (SQ[k]).ok = false → devV l = ⟨false, 0⟩) := Lib.hid (fun k h h' => by subst hSQ; exact dev_no h h')
 have HY : Hid (SQ.all (·.ok) = true → devV l = sqrtV (aggV 1 SQ)) := Lib.hid (fun h => by subst hSQ; exact dev_yes h)
 rw [hK] at hr2 ⊢
 have HL := Lib.hid hlen
 clear hr1 hr HSQ hg2 hgw1 hkl hlen hK hSQ z0 hl
 go_wp2
 have m0 : (w2.alloc (.cells #[.bool M.ok, .int .i64 M.n] 23)).cell? ⟨w2.heap.size, 0, none⟩ = some (.bool M.ok) := by go_simp
 have m1 : (w2.alloc (.cells #[.bool M.ok, .int .i64 M.n] 23)).cell? ⟨w2.heap.size, 1, none⟩ = some (.int .i64 M.n) := by go_simp
 have zm : w2.heap.size < (w2.alloc (.cells #[.bool M.ok, .int .i64 M.n] 23)).heap.size := by simp
 have gm : Gr w2 (w2.alloc (.cells #[.bool M.ok, .int .i64 M.n] 23)) := (by repeat (first | exact Gr.refl _ | refine Gr.alloc ?_ _ | refine Gr.drew ?_ | refine Gr.setCell ?_ (by first | (simp; done) | (simp; omega) | omega) _ | refine Gr.trans ?_ (by assumption)))
 replace p0 := (gm.cell (p := ⟨w.heap.size, 0, none⟩) z2).trans p0
 replace p1 := (gm.cell (p := ⟨w.heap.size, 1, none⟩) z2).trans p1
 replace f0 := (gm.frozen (p := ⟨w.heap.size, 0, none⟩) z2).trans f0
 replace f1 := (gm.frozen (p := ⟨w.heap.size, 1, none⟩) z2).trans f1
 have hr3 := hr2.gr gm
 have hgw3 := Gr.trans hgw2 gm
 have z3 := Nat.lt_of_lt_of_le z2 gm.size
 clear hr2 hgw2 gm z2
 generalize (w2.alloc (.cells #[.bool M.ok, .int .i64 M.n] 23)) = W0 at m0 m1 zm p0 p1 f0 f1 hr3 hgw3 z3 ⊢
 generalize w2.heap.size = Bm at m0 m1 zm ⊢
 have HP := Lib.hid (And.intro (And.intro p0 p1) (And.intro f0 f1))
 have HM := Lib.hid (And.intro m0 m1)
 clear p0 p1 f0 f1 m0 m1
 go_loopw [5, 6] (fun v i wr => ∃ k : Nat, k ≤ K.length ∧ i = .int .i64 k ∧ Gr W0 wr ∧ wr.ownsRow W0.heap.size 23 2 v k (vcells (SQ.take k)) ∧ Hid ((SQ.take k).all (·.ok) = true)) (fun _ i _ => K.length - (intOf i).toNat)
 case atStart => exact ⟨0, Nat.zero_le _, rfl, Gr.refl _, World.ownsRow_nil _ _ _ _, Lib.hid rfl⟩
 case round =>
  obtain ⟨k, hk, rfl, hgr, hown, hall⟩ := hrel
  have m0 := (hgr.cell (p := ⟨Bm, 0, none⟩) zm).trans HM.out.1
  have m1 := (hgr.cell (p := ⟨Bm, 1, none⟩) zm).trans HM.out.2
  have zr := hgr.size
  have zB : Bm < wr.heap.size := by omega
  by_cases hlt : k < K.length
  ·
   have hlt' : k < SQ.length := by rw [HL.out]; exact hlt
   obtain ⟨ad, rfl, hb, hx0, hx1⟩ := (hr3.gr hgr).at hlt
   have Hq := Lib.hid (HQ.out k hlt hlt')
   have Hn := Lib.hid (HN.out k hlt')
   have Ht := Lib.hid (allok_take hlt')
   have Hs := Lib.hid (List.take_succ_eq_append_getElem hlt')
   generalize K[k] = v at hx0 hx1 Hq
   have hbb : (ad.add (k * 2)).block < wr.heap.size := by rw [add_blk]; exact hb
   generalize hd : subV v M = d at Hq
   have HD := Lib.hid hd; clear hd
   go_upto_region 7 with (fail)
   go_cut [7] from 13 to 35 (fun p wx => ∃ bd : Nat, p = .pointer (some ⟨bd, 0, none⟩) ∧ bd < wx.heap.size ∧ Gr wr wx ∧ wx.cell? ⟨bd, 0, none⟩ = some (.bool d.ok) ∧ wx.cell? ⟨bd, 1, none⟩ = some (.int .i64 d.n))
   case first =>
    clear Hq Hn Ht Hs
    refine wp_region_Z 7 (fun W => Gr wr W) (by kernel_rfl) ?_
    have hS0 : Gr wr wr.drew := Gr.drew (Gr.refl _)
    generalize wr.drew = V at hS0 ⊢
    refine wpAnyZ_take (i := 0) (v := ?v1) rfl (by kernel_rfl) (fun _ _ _ h => h) (by rfl) (fun W hS => ?h1) hS0 ?r1
    case h1 => go_simp; rfl
    simp only [Act.put, List.setIfInBounds_toArray, List.set_cons_zero, List.set_cons_succ]
    refine wpAnyZ_take (i := 1) (v := ?v2) rfl (by kernel_rfl) (fun _ _ _ h => h) (by rfl) (fun W hS => ?h2) hS0 ?r2
    case h2 => go_simp; rfl
    simp only [Act.put, List.setIfInBounds_toArray, List.set_cons_zero, List.set_cons_succ]
    refine wpAnyZ_take (i := 2) (v := ?v3) rfl (by kernel_rfl) (fun _ _ _ h => h) (by rfl) (fun W hS => ?h3) hS0 ?r3
    case h3 => go_simp; rfl
    simp only [Act.put, List.setIfInBounds_toArray, List.set_cons_zero, List.set_cons_succ]
    refine wpAnyZ_take (i := 3) (v := ?v4) rfl (by kernel_rfl) (fun _ _ _ h => h) (by rfl) (fun W hS => ?h4) hS0 ?r4
    case h4 => have y0 := (hS.cell (p := ad.add (k * 2)) hbb).trans hx0; have y1 := (hS.cell (p := ⟨(ad.add (k * 2)).block, (ad.add (k * 2)).off + 1, none⟩) hbb).trans hx1; go_simp; rfl
    simp only [Act.put, List.setIfInBounds_toArray, List.set_cons_zero, List.set_cons_succ]
    refine wpAnyZ_take (i := 4) (v := ?v5) rfl (by kernel_rfl) (fun _ _ _ h => h) (by rfl) (fun W hS => ?h5) hS0 ?r5
    case h5 => have y0 := (hS.cell (p := ⟨Bm, 0, none⟩) zB).trans m0; have y1 := (hS.cell (p := ⟨Bm, 1, none⟩) zB).trans m1; go_simp; rfl
    simp only [Act.put, List.setIfInBounds_toArray, List.set_cons_zero, List.set_cons_succ]
    refine wpAnyZ_ready (rs := [5, 6]) (by kernel_rfl) (by simp) ?_
    refine AllReadyZ.cons rfl (by rfl) (fun K hK => ?_) (AllReadyZ.cons rfl (by rfl) (fun K hK => ?_) AllReadyZ.nil)
    ·
     go_simp
     refine (rsub_any v M _).mono ?_; rintro e w3 ⟨rfl, hg3⟩
     have hS1 := Gr.trans hS0 hg3
     go_wp2_with fail
     refine hK.out _ _ (fun hnz => ?s6) (fun _ => ?r6)
     case s6 => exact hS1
     clear hK K
     try simp only [Pu]
     refine wpAnyZ_ready (rs := [6]) (by kernel_rfl) (by simp) ?_
     refine AllReadyZ.cons rfl (by rfl) (fun K hK => ?_) ?_
     rotate_left
     exact AllReadyZ.nil
     have hS2 := Gr.alloc hS1 (.cells #[.bool false, .int .i64 0] 23)
     go_wp2_with fail
     refine hK.out _ _ (fun hnz => ?s7) (fun _ => ?r7)
     case s7 => exact hS2
     clear hK K
     try simp only [Pu]
     refine wpAnyZ_ready (rs := [7]) (by kernel_rfl) (by simp) ?_
     refine AllReadyZ.cons rfl (by rfl) (fun K hK => ?_) ?_
     rotate_left
     exact AllReadyZ.nil
     go_wp2_with fail
     refine hK.out _ _ (fun hnz => ?s8) (fun _ => ?r8)
     case s8 => exact absurd rfl hnz
     clear hK K
     try simp only [Pu]
     refine wpAnyZ_done (by kernel_rfl) ?_ _
     go_wp2_with fail
     go_meet
     exact ⟨w3.heap.size, rfl, by simp, Gr.alloc hS1 _, by rw [← HD.out]; go_simp, by rw [← HD.out]; go_simp⟩
    ·
     have hS1 := Gr.alloc hS0 (.cells #[.bool false, .int .i64 0] 23)
     go_wp2_with fail
     refine hK.out _ _ (fun hnz => ?s9) (fun _ => ?r9)
     case s9 => exact hS1
     clear hK K
     try simp only [Pu]
     refine wpAnyZ_ready (rs := [5]) (by kernel_rfl) (by simp) ?_
     refine AllReadyZ.cons rfl (by rfl) (fun K hK => ?_) ?_
     rotate_left
     exact AllReadyZ.nil
     go_simp
     refine (rsub_any v M _).mono ?_; rintro e w3 ⟨rfl, hg3⟩
     have hS2 := Gr.trans hS1 hg3
     have hsz := hg3.size
     simp at hsz
     have zV : V.heap.size < w3.heap.size := by omega
     have p0 : w3.cell? ⟨V.heap.size, 0, none⟩ = some (.bool false) := (hg3.cell (p := ⟨V.heap.size, 0, none⟩) (by simp)).trans (by go_simp)
     have p1 : w3.cell? ⟨V.heap.size, 1, none⟩ = some (.int .i64 0) := (hg3.cell (p := ⟨V.heap.size, 1, none⟩) (by simp)).trans (by go_simp)
     have f0 : w3.frozen? ⟨V.heap.size, 0, none⟩ = false := (hg3.frozen (p := ⟨V.heap.size, 0, none⟩) (by simp)).trans (by go_simp)
     have f1 : w3.frozen? ⟨V.heap.size, 1, none⟩ = false := (hg3.frozen (p := ⟨V.heap.size, 1, none⟩) (by simp)).trans (by go_simp)
     go_wp2_with fail
     refine hK.out _ _ (fun hnz => ?s10) (fun _ => ?r10)
     case s10 => exact hS2
     clear hK K
     try simp only [Pu]
     refine wpAnyZ_ready (rs := [7]) (by kernel_rfl) (by simp) ?_
     refine AllReadyZ.cons rfl (by rfl) (fun K hK => ?_) ?_
     rotate_left
     exact AllReadyZ.nil
     go_wp2_with fail
     refine hK.out _ _ (fun hnz => ?s11) (fun _ => ?r11)
     case s11 => exact absurd rfl hnz
     clear hK K
     try simp only [Pu]
     refine wpAnyZ_done (by kernel_rfl) ?_ _
     go_wp2_with fail
     go_meet
     exact ⟨V.heap.size, rfl, by simpa using zV, Gr.setCell (Gr.setCell hS2 hS0.size _) hS0.size _, by rw [← HD.out]; go_simp, by rw [← HD.out]; go_simp⟩
   case rest =>
   obtain ⟨bd, rfl, hbd, g3, hd0, hd1⟩ := hcut
   have hown3 := own_gr hown g3
   clear m0 m1 hx0 hx1 HD
   generalize wc = w3 at hbd g3 hd0 hd1 hown3 ⊢
   go_wp2_with fail
   refine (rmul_any d d _).mono ?_; rintro e w4 ⟨rfl, hg4⟩
   have g4 : Gr w3 w4 := (by repeat (first | exact Gr.refl _ | refine Gr.alloc ?_ _ | refine Gr.drew ?_ | refine Gr.setCell ?_ (by first | (simp; done) | (simp; omega) | omega) _ | refine Gr.trans ?_ (by assumption)))
   have g5 := Gr.trans (Gr.trans hgr g3) g4
   have hown4 := own_gr hown3 g4
   clear hg4 g3 g4 hown hown3 hgr
   generalize SQ[k] = q0 at Hq Hn Ht Hs
   obtain ⟨q, hq⟩ : ∃ q, mulV d d = q := ⟨_, rfl⟩
   have Hqq : Hid (q0 = q) := Lib.hid (Hq.out.trans hq)
   rw [hq]
   clear hq Hq
   obtain ⟨qo, qn⟩ := q
   obtain rfl := Hqq.out
   clear Hqq
   cases qo
   case false =>
    have HV := Lib.hid (Hn.out rfl)
    have p0 := (g5.cell (p := ⟨w.heap.size, 0, none⟩) z3).trans HP.out.1.1
    have p1 := (g5.cell (p := ⟨w.heap.size, 1, none⟩) z3).trans HP.out.1.2
    have f0 := (g5.frozen (p := ⟨w.heap.size, 0, none⟩) z3).trans HP.out.2.1
    have f1 := (g5.frozen (p := ⟨w.heap.size, 1, none⟩) z3).trans HP.out.2.2
    have z4 := Nat.lt_of_lt_of_le z3 g5.size
    have gw := Gr.trans hgw3 g5
    clear hown4 g5
    go_wp2
    exact bodyPost_ret (v := .agg #[.bool false, .int .i64 0]) (by simp [results, Tryz.results37, go_sem, *]) rfl ⟨by rw [HV.out], (by repeat (first | exact Gr.refl _ | refine Gr.alloc ?_ _ | refine Gr.drew ?_ | refine Gr.setCell ?_ (by first | (simp; done) | (simp; omega) | omega) _ | refine Gr.trans ?_ (by assumption)))⟩
   case true =>
    have z5 := g5.size
    have hrx : Rv ((w4.alloc (.cells (vcells [⟨true, qn⟩]).toArray 23)).alloc (.cells (vcells [⟨true, qn⟩]).toArray 23)) (some ⟨w4.heap.size + 1, 0, none⟩) [⟨true, qn⟩] := Rv.new (by simp) 23 [⟨true, qn⟩]
    have hv0 := (hown4.alloc (.cells (vcells [⟨true, qn⟩]).toArray 23)).alloc (.cells (vcells [⟨true, qn⟩]).toArray 23)
    have hvl := (hown4.alloc (.cells (vcells [⟨true, qn⟩]).toArray 23)).lt
    have g6 : Gr W0 (w4.alloc (.cells (vcells [⟨true, qn⟩]).toArray 23)) := (by repeat (first | exact Gr.refl _ | refine Gr.alloc ?_ _ | refine Gr.drew ?_ | refine Gr.setCell ?_ (by first | (simp; done) | (simp; omega) | omega) _ | refine Gr.trans ?_ (by assumption)))
    go_wp2_with (at_builtin; go_loud (refine wpList_append_rd rfl (.tmp 32) (.tmp 34) 28 rfl W0.heap.size 23 i0 _ 2 16 Tryz.underlying28 hi hz0 hz1 hz2 rfl (by decide) _ _ _ rfl hv0 (some ⟨w4.heap.size + 1, 0, none⟩) 1 _ (vcells [⟨true, qn⟩]) rfl hrx (vcells_one _) (by unfold maxLen; omega) (by omega) (by simp; omega) ?_; intro v' w6 hown6 hgr6 hat6))
    have hg6 : Gr W0 w6 := Gr.grown (Gr.alloc g6 _) hgr6 (fun k hk => (hvl k hk).1)
    clear hv0 hvl hgr6 hat6 hrx g6
    go_wp2
    go_roundw
    case rel => exact ⟨k + 1, by omega, by go_num, hg6, by rw [Hs.out, vcells_append]; exact hown6, Lib.hid (by rw [Ht.out, hall.out]; rfl)⟩
    case measure => simp [intOf]; omega
  ·
   have hkk : k = K.length := by omega
   subst hkk
   have hT : SQ.take K.length = SQ := by rw [← HL.out, List.take_length]
   rw [hT] at hown hall
   obtain ⟨A', c', hv⟩ := own_form hown
   subst hv
   have hrs : Rv wr A' SQ := by have h := Rd.own hown; unfold Rv; rw [HL.out]; exact h
   have HV := Lib.hid (HY.out hall.out)
   have QA := ragg_of_any 1 A' c' SQ
   rw [HL.out] at QA
   have QA := Lib.hid (QA wr hK6 hrs)
   clear hT hown m0 m1 hrs
   go_wp2_with fail
   refine QA.out.mono ?_; rintro e w5 ⟨rfl, hg5⟩
   generalize aggV 1 SQ = V at HV ⊢
   go_wp2_with fail
   refine (rsqrt_any V _).mono ?_; rintro e w6 ⟨rfl, hg6⟩
   generalize sqrtV V = x at HV ⊢
   have g5 := Gr.trans (Gr.trans hgr hg5) hg6
   have p0 := (g5.cell (p := ⟨w.heap.size, 0, none⟩) z3).trans HP.out.1.1
   have p1 := (g5.cell (p := ⟨w.heap.size, 1, none⟩) z3).trans HP.out.1.2
   have f0 := (g5.frozen (p := ⟨w.heap.size, 0, none⟩) z3).trans HP.out.2.1
   have f1 := (g5.frozen (p := ⟨w.heap.size, 1, none⟩) z3).trans HP.out.2.2
   have z4 := Nat.lt_of_lt_of_le z3 g5.size
   have gw := Gr.trans hgw3 g5
   clear hg5 hg6 g5 hgr QA
   go_wp2
   exact bodyPost_ret (v := .agg #[.bool x.ok, .int .i64 x.n]) (by simp [results, Tryz.results37, go_sem, *]) rfl ⟨by rw [HV.out], (by repeat (first | exact Gr.refl _ | refine Gr.alloc ?_ _ | refine Gr.drew ?_ | refine Gr.setCell ?_ (by first | (simp; done) | (simp; omega) | omega) _ | refine Gr.trans ?_ (by assumption)))⟩
end Go.Proofs.YtbdichmkgcngbaaGreat
