/- The contracts of first, of fpick and of the reference: the first ones, as many as a value has whole ones. · Series joined and shrunk, plainly: what they are, and the laws SeriesCommon, SeriesBuckets, SeriesItself of them. No program in sight. · Contracts of what Join leans on: whether any series may not be; the least common multiple; the greatest common divisor. · Contracts of Cons, End, up and Own, of the program's package series and of the reference; of slices.Clone. · Series joined: plain laws of the loops, and what is handed back. · A region that draws its order, all of whose operations yield one value in every world of a class (here: all that was there is as it was): walked once, in the order of the text. Derived/Deep/Quiet.lean's law, one operation at a time. No program in sight. · Contracts of series.within and of its closure: the values of a series whose times lie in a span. -/
import Derived.Test.YtbdichmkgcngbaaGreatRunFxSqM
import Derived.Test.YtbdichmkgcngbaaGreatRunFxBase
import Derived.Outline
import Derived.Test.YtbdichmkgcngbaaGreatRunAgOf
import Derived.Test.YtbdichmkgcngbaaGreatRunSrIs
import Derived.BigQuiet
import Derived.Lib.SliceRun
import Derived.Deep.Quiet
import Derived.Lib.Hide
namespace Go.Proofs.YtbdichmkgcngbaaGreat
open Go.RowKit
set_option linter.unusedVariables false
set_option linter.unusedSimpArgs false

theorem scells_take (L : List Sq) (m : Nat) (h : m ≤ L.length) : scells (L.take m) = (scells L).take (m * 5) := by
 induction L generalizing m with
 | nil => simp [scells]
 | cons x L ih =>
  match m with
  | 0 => simp [scells]
  | m + 1 =>
   have hm : m ≤ L.length := by simpa using h
   rw [List.take_succ_cons, scells_cons, scells_cons, ih m hm, show (m + 1) * 5 = m * 5 + 5 by omega]
   rfl
theorem Rl.take {w : World} {A : Option Addr} {L : List Sq} (h : Rl w A L) {m : Nat} (hm : m ≤ L.length) : Rl w A (L.take m) := by
 refine ⟨scells_length _, fun h0 => ?_⟩
 have hl : (L.take m).length = m := by simp; omega
 obtain ⟨ad, e, hb, hc⟩ := h.2 (by omega)
 refine ⟨ad, e, hb, fun j u hu => hc j u ?_⟩
 rw [scells_take L m hm] at hu
 rw [List.getElem?_take] at hu
 split at hu
 ·
  exact hu
 ·
  cases hu
theorem firstN_le (k : Vl) (n : Nat) : firstN k n ≤ n := by unfold firstN; split <;> omega
/-- a slice of series is handed back. -/
def RetL (L : List Sq) (w : World) (e : Ending) (w' : World) : Prop := ∃ A c, e = .returned (.slice A L.length c) ∧ L.length ≤ c ∧ Rl w' A L ∧ Gr w w'
theorem firstN_no {k : Vl} (h : k.ok = false ∨ k.n < 0) (n : Nat) : firstN k n = 0 := by
 unfold firstN; rw [if_neg]; rintro ⟨h1, h2⟩
 rcases h with h | h
 ·
  rw [h] at h1; cases h1
 ·
  omega
theorem firstL_no {k : Vl} (h : k.ok = false ∨ k.n < 0) (L : List Sq) : firstL k L = [] := by unfold firstL; rw [firstN_no h]; rfl
theorem firstL_yes {k : Vl} (h1 : k.ok = true) (h2 : 0 ≤ k.n) (L : List Sq) (q : Nat) (hq : k.n / 1000000 = q) : firstL k L = L.take (min (L.length : Int) (q : Int)).toNat := by
 unfold firstL firstN; rw [if_pos ⟨h1, h2⟩]; congr 1; omega
theorem ret_slice {A : Option Addr} {n m c : Nat} (h : n = m) : Ending.returned (.slice A n c) = .returned (.slice A m c) := by rw [h]
theorem normV_kn {k : Vl} (h : knB k = true) : normV k = k := by
 unfold normV
 rw [(show isB k = true by unfold knB at h; rw [Bool.and_eq_true] at h; exact h.2)]
 rfl
theorem normV_no {k : Vl} (h : knB k = false) : (normV k).ok = false := by
 unfold normV
 cases hb : isB k
 ·
  rfl
 ·
  unfold knB at h
  rw [hb, Bool.and_true] at h
  exact h
theorem normV_isB (k : Vl) : isB (normV k) = true := by
 unfold normV
 cases hb : isB k
 ·
  rfl
 ·
  exact hb
set_option maxRecDepth 100000 in
set_option maxHeartbeats 1600000 in
theorem first_any (k : Vl) (A : Option Addr) (c : Nat) (L : List Sq) (w : World) (hk : isB k = true) (hl : L.length ≤ 1000000) (hcap : L.length ≤ c) (hr : Rl w A L) :
  Calls Tryz.prog 54 #[.agg #[.bool k.ok, .int .i64 k.n], .slice A L.length c] w (RetL (firstL k L) w) := by
 obtain ⟨ok, n⟩ := k
 have hl' : (L.length : Int) ≤ 1000000 := by omega
 cases ok
 case false =>
  rw [firstL_no (.inl rfl)]
  go_enter Tryz.func54, Tryz.ntmps54
  go_wp2
  go_ret
  exact ⟨none, 0, rfl, Nat.le_refl _, Rd.nil _ _ _, (by repeat (first | exact Gr.refl _ | refine Gr.alloc ?_ _ | refine Gr.drew ?_ | refine Gr.setCell ?_ (by first | (simp; done) | (simp; omega) | omega) _ | refine Gr.trans ?_ (by assumption)))⟩
 by_cases h0 : n < 0
 ·
  rw [firstL_no (.inr h0)]
  go_enter Tryz.func54, Tryz.ntmps54
  go_wp2
  go_ret
  exact ⟨none, 0, rfl, Nat.le_refl _, Rd.nil _ _ _, (by repeat (first | exact Gr.refl _ | refine Gr.alloc ?_ _ | refine Gr.drew ?_ | refine Gr.setCell ?_ (by first | (simp; done) | (simp; omega) | omega) _ | refine Gr.trans ?_ (by assumption)))⟩
 have h0' : 0 ≤ n := by omega
 have hn1 : n ≤ 4611686018427387904 := ((isB_iff true n).1 hk).2
 obtain ⟨q, hq⟩ : ∃ q : Nat, n / 1000000 = q := ⟨(n / 1000000).toNat, by omega⟩
 rw [firstL_yes (k := ⟨true, n⟩) rfl h0' L q hq]
 have hm : min (L.length : Int) (q : Int) ≤ (c : Int) := by omega
 have hm0 : 0 ≤ min (L.length : Int) (q : Int) := by omega
 have hlen : (L.take (min (L.length : Int) (q : Int)).toNat).length = (min (L.length : Int) (q : Int)).toNat := by simp; omega
 have hr2 := hr.take (m := (min (L.length : Int) (q : Int)).toNat) (by omega)
 have HL := Lib.hid hlen
 clear hlen
 go_enter Tryz.func54, Tryz.ntmps54
 go_wp2
 go_ret
 exact ⟨_, _, ret_slice (by rw [HL.out]), by rw [HL.out]; omega, hr2.gr (by repeat (first | exact Gr.refl _ | refine Gr.alloc ?_ _ | refine Gr.drew ?_ | refine Gr.setCell ?_ (by first | (simp; done) | (simp; omega) | omega) _ | refine Gr.trans ?_ (by assumption))), (by repeat (first | exact Gr.refl _ | refine Gr.alloc ?_ _ | refine Gr.drew ?_ | refine Gr.setCell ?_ (by first | (simp; done) | (simp; omega) | omega) _ | refine Gr.trans ?_ (by assumption)))⟩
set_option maxRecDepth 100000 in
set_option maxHeartbeats 1600000 in
theorem rfirst_any (k : Vl) (A : Option Addr) (c : Nat) (L : List Sq) (w : World) (hl : L.length ≤ 1000000) (hcap : L.length ≤ c) (hr : Rl w A L) :
  Calls Tryz.prog 76 #[.agg #[.bool k.ok, .int .i64 k.n], .slice A L.length c] w (RetL (firstL (normV k) L) w) := by
 have Q := fun w => rkn_any k w
 obtain ⟨ok, n⟩ := k
 have hl' : (L.length : Int) ≤ 1000000 := by omega
 cases hkn : knB ⟨ok, n⟩
 case false =>
  rw [firstL_no (.inl (normV_no hkn))]
  simp only [hkn] at Q
  clear hkn
  go_enter Tryz.func76, Tryz.ntmps76
  go_wp2_with fail
  refine (Q _).mono ?_; rintro e w1 ⟨rfl, hg⟩
  obtain ⟨hc, hf⟩ := hg.cells
  have z1 := hg.size
  simp at z1
  have z0 : w.heap.size < w1.heap.size := by omega
  have gw : Gr w w1 := (by repeat (first | exact Gr.refl _ | refine Gr.alloc ?_ _ | refine Gr.drew ?_ | refine Gr.setCell ?_ (by first | (simp; done) | (simp; omega) | omega) _ | refine Gr.trans ?_ (by assumption)))
  have p1 : w1.cell? ⟨w.heap.size, 1, none⟩ = some (.int .i64 n) := (hg.cell (p := ⟨w.heap.size, 1, none⟩) (by simp)).trans (by go_simp)
  clear hc hf hg
  go_wp2
  go_ret
  exact ⟨none, 0, rfl, Nat.le_refl _, Rd.nil _ _ _, (by repeat (first | exact Gr.refl _ | refine Gr.alloc ?_ _ | refine Gr.drew ?_ | refine Gr.setCell ?_ (by first | (simp; done) | (simp; omega) | omega) _ | refine Gr.trans ?_ (by assumption)))⟩
 rw [normV_kn hkn]
 have hok : ok = true := knB_ok hkn
 subst hok
 have hn1 : n ≤ 4611686018427387904 := knB_hi hkn
 simp only [hkn] at Q
 clear hkn
 by_cases h0 : n < 0
 ·
  rw [firstL_no (.inr h0)]
  go_enter Tryz.func76, Tryz.ntmps76
  go_wp2_with fail
  refine (Q _).mono ?_; rintro e w1 ⟨rfl, hg⟩
  obtain ⟨hc, hf⟩ := hg.cells
  have z1 := hg.size
  simp at z1
  have z0 : w.heap.size < w1.heap.size := by omega
  have gw : Gr w w1 := (by repeat (first | exact Gr.refl _ | refine Gr.alloc ?_ _ | refine Gr.drew ?_ | refine Gr.setCell ?_ (by first | (simp; done) | (simp; omega) | omega) _ | refine Gr.trans ?_ (by assumption)))
  have p1 : w1.cell? ⟨w.heap.size, 1, none⟩ = some (.int .i64 n) := (hg.cell (p := ⟨w.heap.size, 1, none⟩) (by simp)).trans (by go_simp)
  clear hc hf hg
  go_wp2
  go_ret
  exact ⟨none, 0, rfl, Nat.le_refl _, Rd.nil _ _ _, (by repeat (first | exact Gr.refl _ | refine Gr.alloc ?_ _ | refine Gr.drew ?_ | refine Gr.setCell ?_ (by first | (simp; done) | (simp; omega) | omega) _ | refine Gr.trans ?_ (by assumption)))⟩
 have h0' : 0 ≤ n := by omega
 obtain ⟨q, hq⟩ : ∃ q : Nat, n / 1000000 = q := ⟨(n / 1000000).toNat, by omega⟩
 rw [firstL_yes (k := ⟨true, n⟩) rfl h0' L q hq]
 have hm : min (L.length : Int) (q : Int) ≤ (c : Int) := by omega
 have hm0 : 0 ≤ min (L.length : Int) (q : Int) := by omega
 have hlen : (L.take (min (L.length : Int) (q : Int)).toNat).length = (min (L.length : Int) (q : Int)).toNat := by simp; omega
 have hr2 := hr.take (m := (min (L.length : Int) (q : Int)).toNat) (by omega)
 have HL := Lib.hid hlen
 clear hlen
 go_enter Tryz.func76, Tryz.ntmps76
 go_wp2_with fail
 refine (Q _).mono ?_; rintro e w1 ⟨rfl, hg⟩
 obtain ⟨hc, hf⟩ := hg.cells
 have z1 := hg.size
 simp at z1
 have z0 : w.heap.size < w1.heap.size := by omega
 have gw : Gr w w1 := (by repeat (first | exact Gr.refl _ | refine Gr.alloc ?_ _ | refine Gr.drew ?_ | refine Gr.setCell ?_ (by first | (simp; done) | (simp; omega) | omega) _ | refine Gr.trans ?_ (by assumption)))
 have p1 : w1.cell? ⟨w.heap.size, 1, none⟩ = some (.int .i64 n) := (hg.cell (p := ⟨w.heap.size, 1, none⟩) (by simp)).trans (by go_simp)
 clear hc hf hg
 go_wp2
 go_ret
 exact ⟨_, _, ret_slice (by rw [HL.out]), by rw [HL.out]; omega, hr2.gr (by repeat (first | exact Gr.refl _ | refine Gr.alloc ?_ _ | refine Gr.drew ?_ | refine Gr.setCell ?_ (by first | (simp; done) | (simp; omega) | omega) _ | refine Gr.trans ?_ (by assumption))), (by repeat (first | exact Gr.refl _ | refine Gr.alloc ?_ _ | refine Gr.drew ?_ | refine Gr.setCell ?_ (by first | (simp; done) | (simp; omega) | omega) _ | refine Gr.trans ?_ (by assumption)))⟩
end Go.Proofs.YtbdichmkgcngbaaGreat
namespace Go.Proofs.YtbdichmkgcngbaaGreat
set_option linter.unusedVariables false
set_option linter.unusedSimpArgs false
open Go.RowKit

/-- the least number that is a multiple of both; 0: it is too great. -/
def comN (a b : Nat) : Nat := if 16777216 / b < a / Nat.gcd a b then 0 else a / Nat.gcd a b * b
def comS (st : Nat) (s : Sr) : Nat := if st = 0 then 0 else comN st s.step.toNat
def stepS (L : List Sr) : Nat := L.foldl comS 1
def minS (L : List Sr) (t : Int) : Int := L.foldl (fun t s => min t s.start) t
def lastS (L : List Sr) : Int := L.foldl (fun t s => max t (endS s)) 0
def startJ (L : List Sr) : Int := minS L 4294967295 - minS L 4294967295 % (stepS L : Int)
def countJ (L : List Sr) : Int := upI (lastS L - startJ L) (stepS L : Int)
def errJ (L : List Sr) : Int := if L.all isS = true then (if L = [] then 0 else if stepS L = 0 then 13 else if 131072 < countJ L then 13 else 0) else 1
def joinS (L : List Sr) : List Sr := if errJ L = 0 then L.map fun s => fitS s (startJ L) (stepS L : Int) (countJ L) else []

theorem comN_le {a b : Nat} (hb : 0 < b) : comN a b ≤ 16777216 := by
 unfold comN
 split
 ·
  omega
 ·
  rename_i h
  exact (Nat.le_div_iff_mul_le hb).1 (by omega)
theorem comN_pos {a b : Nat} (_ha : 0 < a) (hb : 0 < b) (h : comN a b ≠ 0) : comN a b = a / Nat.gcd a b * b ∧ 0 < comN a b ∧ a ∣ comN a b ∧ b ∣ comN a b := by
 unfold comN at h ⊢
 split at h
 ·
  exact absurd rfl h
 ·
  rename_i h1
  rw [if_neg h1]
  refine ⟨rfl, Nat.pos_of_ne_zero h, ?_, Nat.dvd_mul_left _ _⟩
  obtain ⟨x, hx⟩ := Nat.gcd_dvd_right a b
  refine ⟨b / Nat.gcd a b, ?_⟩
  have hg : 0 < Nat.gcd a b := Nat.gcd_pos_of_pos_right _ hb
  rw [Nat.div_mul_comm_of_dvd' a b]
where
 Nat.div_mul_comm_of_dvd' (a b : Nat) : a / Nat.gcd a b * b = a * (b / Nat.gcd a b) := by
  rcases Nat.eq_zero_or_pos (Nat.gcd a b) with h0 | hg
  ·
   rw [h0]; simp [Nat.div_zero]
  ·
   obtain ⟨x, hx⟩ := Nat.gcd_dvd_left a b
   obtain ⟨y, hy⟩ := Nat.gcd_dvd_right a b
   generalize Nat.gcd a b = g at *
   subst hx hy
   rw [Nat.mul_div_cancel_left _ hg, Nat.mul_div_cancel_left _ hg, Nat.mul_comm g x, Nat.mul_assoc]
theorem comS_zero (L : List Sr) : L.foldl comS 0 = 0 := by
 induction L with
 | nil => rfl
 | cons s L ih => exact ih
theorem fold_step (L : List Sr) (hp : ∀ s ∈ L, 1 ≤ s.step) : ∀ st, 0 < st → st ≤ 16777216 → L.foldl comS st ≠ 0 →
  st ∣ L.foldl comS st ∧ (∀ s ∈ L, s.step.toNat ∣ L.foldl comS st) ∧ L.foldl comS st ≤ 16777216 := by
 induction L with
 | nil => intro st h0 h1 _; exact ⟨Nat.dvd_refl _, fun s hs => absurd hs (by simp), h1⟩
 | cons s L ih =>
  intro st h0 h1 h
  have hs := hp s (List.mem_cons_self ..)
  have hsp : 0 < s.step.toNat := by omega
  have e : (s :: L).foldl comS st = L.foldl comS (comN st s.step.toNat) := by
   show L.foldl comS (comS st s) = _
   unfold comS; rw [if_neg (by omega)]
  rw [e] at h ⊢
  have hz : comN st s.step.toNat ≠ 0 := fun hz => h (by rw [hz]; exact comS_zero L)
  obtain ⟨_, c0, c1, c2⟩ := comN_pos h0 hsp hz
  obtain ⟨d0, d1, d2⟩ := ih (fun u hu => hp u (List.mem_cons_of_mem _ hu)) _ c0 (comN_le hsp) h
  refine ⟨Nat.dvd_trans c1 d0, fun u hu => ?_, d2⟩
  rcases List.mem_cons.1 hu with rfl | hu
  ·
   exact Nat.dvd_trans c2 d0
  ·
   exact d1 u hu
theorem minS_le (L : List Sr) : ∀ t, minS L t ≤ t ∧ ∀ s ∈ L, minS L t ≤ s.start := by
 induction L with
 | nil => intro t; exact ⟨Int.le_refl _, fun s hs => absurd hs (by simp)⟩
 | cons s L ih =>
  intro t
  obtain ⟨h0, h1⟩ := ih (min t s.start)
  show minS L (min t s.start) ≤ t ∧ _
  refine ⟨by omega, fun u hu => ?_⟩
  show minS L (min t s.start) ≤ u.start
  rcases List.mem_cons.1 hu with rfl | hu
  ·
   omega
  ·
   exact h1 u hu
theorem minS_ge (L : List Sr) (hp : ∀ s ∈ L, 0 ≤ s.start) : ∀ t, 0 ≤ t → 0 ≤ minS L t := by
 induction L with
 | nil => intro t h; exact h
 | cons s L ih =>
  intro t h
  have := hp s (List.mem_cons_self ..)
  exact ih (fun u hu => hp u (List.mem_cons_of_mem _ hu)) (min t s.start) (by omega)
theorem last_ge (L : List Sr) : ∀ t : Int, t ≤ L.foldl (fun t s => max t (endS s)) t ∧ ∀ s ∈ L, endS s ≤ L.foldl (fun t s => max t (endS s)) t := by
 induction L with
 | nil => intro t; exact ⟨Int.le_refl _, fun s hs => absurd hs (by simp)⟩
 | cons s L ih =>
  intro t
  obtain ⟨h0, h1⟩ := ih (max t (endS s))
  refine ⟨?_, fun u hu => ?_⟩
  ·
   show t ≤ L.foldl (fun t s => max t (endS s)) (max t (endS s)); omega
  ·
   show endS u ≤ L.foldl (fun t s => max t (endS s)) (max t (endS s))
   rcases List.mem_cons.1 hu with rfl | hu
   ·
    omega
   ·
    exact h1 u hu
theorem upI_facts {n k : Int} (hn : 0 ≤ n) (hk : 1 ≤ k) : 0 ≤ upI n k ∧ n ≤ upI n k * k ∧ upI n k * k < n + k := by
 unfold upI
 have h := Int.mul_ediv_add_emod (n + k - 1) k
 have h0 := Int.emod_nonneg (n + k - 1) (b := k) (by omega)
 have h1 := Int.emod_lt_of_pos (n + k - 1) (b := k) (by omega)
 rw [Int.mul_comm] at h
 refine ⟨Int.ediv_nonneg (by omega) (by omega), by omega, by omega⟩

/-- what the law SeriesCommon says of joined series. -/
theorem joined {L : List Sr} (he : errJ L = 0) (hne : L ≠ []) :
  1 ≤ (stepS L : Int) ∧ (stepS L : Int) ≤ 16777216 ∧ 0 ≤ startJ L ∧ startJ L ≤ 4294967295 ∧ 0 ≤ countJ L ∧ countJ L ≤ 131072 ∧
  ∀ s ∈ L, Ok s ∧ fitS s (startJ L) (stepS L : Int) (countJ L) = ⟨s.name, startJ L, (stepS L : Int), fitL s (startJ L) (stepS L : Int) (countJ L).toNat, s.cons⟩ ∧
   (stepS L : Int) % s.step = 0 ∧ startJ L ≤ s.start ∧ endS s ≤ endS (fitS s (startJ L) (stepS L : Int) (countJ L)) := by
 unfold errJ at he
 split at he
 ·
  rename_i hall
  first
  | rw [if_neg hne] at he
  | skip
  split at he
  ·
   cases he
  ·
   rename_i hst
   split at he
   ·
    cases he
   ·
    rename_i hc
    have hok : ∀ s ∈ L, Ok s := fun s hs => (isS_iff s).1 (List.all_eq_true.1 hall s hs)
    obtain ⟨_, hd, hle⟩ := fold_step L (fun s hs => (hok s hs).p0) 1 (by decide) (by decide) hst
    have hst1 : 1 ≤ (stepS L : Int) := by have : stepS L ≠ 0 := hst; omega
    have hst2 : (stepS L : Int) ≤ 16777216 := by have : stepS L ≤ 16777216 := hle; omega
    obtain ⟨m0, m1⟩ := minS_le L 4294967295
    have m2 := minS_ge L (fun s hs => (hok s hs).s0) 4294967295 (by decide)
    have r0 := Int.emod_nonneg (minS L 4294967295) (b := (stepS L : Int)) (by omega)
    have r1 : minS L 4294967295 % (stepS L : Int) ≤ minS L 4294967295 := by
     have h := Int.mul_ediv_add_emod (minS L 4294967295) (stepS L : Int)
     have := Int.mul_nonneg (a := (stepS L : Int)) (b := minS L 4294967295 / (stepS L : Int)) (by omega) (Int.ediv_nonneg m2 (by omega))
     omega
    have s0 : 0 ≤ startJ L := by unfold startJ; omega
    have s1 : startJ L ≤ 4294967295 := by unfold startJ; omega
    have sm : startJ L ≤ minS L 4294967295 := by unfold startJ; omega
    have hend : ∀ s ∈ L, s.start ≤ endS s := fun s hs => by
     unfold endS; rw [if_pos ((isS_iff s).2 (hok s hs))]
     have := Int.mul_nonneg (a := (s.vals.length : Int)) (b := s.step) (by omega) (by have := (hok s hs).p0; omega)
     omega
    obtain ⟨_, l1⟩ := last_ge L 0
    have hl : 0 ≤ lastS L - startJ L := by
     obtain ⟨u, hu⟩ := List.exists_mem_of_ne_nil L hne
     have h1 := m1 u hu; have h2 := hend u hu; have h3 : endS u ≤ lastS L := l1 u hu
     omega
    obtain ⟨u0, u1, u2⟩ := upI_facts hl hst1
    have c0 : 0 ≤ countJ L := u0
    have c1 : countJ L ≤ 131072 := by omega
    refine ⟨hst1, hst2, s0, s1, c0, c1, fun s hs => ?_⟩
    have ho := hok s hs
    have hf : fitOk s (startJ L) (stepS L : Int) (countJ L) = true := by
     unfold fitOk
     rw [(isS_iff s).2 ho]
     simp only [Bool.true_and, Bool.and_eq_true, decide_eq_true_eq]
     exact ⟨hst1, by omega, c0, c1, s0, s1⟩
    have hfit : fitS s (startJ L) (stepS L : Int) (countJ L) = ⟨s.name, startJ L, (stepS L : Int), fitL s (startJ L) (stepS L : Int) (countJ L).toNat, s.cons⟩ := by
     unfold fitS; rw [if_pos hf]
    refine ⟨ho, hfit, ?_, by have := m1 s hs; omega, ?_⟩
    ·
     obtain ⟨q, hq⟩ := hd s hs
     have hp := ho.p0
     have e : (stepS L : Int) = s.step * (q : Int) := by
      have : stepS L = s.step.toNat * q := hq
      rw [this, Int.natCast_mul, Int.toNat_of_nonneg (by omega)]
     rw [e]; exact Int.mul_emod_right _ _
    ·
     rw [hfit]
     have hi : isS ⟨s.name, startJ L, (stepS L : Int), fitL s (startJ L) (stepS L : Int) (countJ L).toNat, s.cons⟩ = true := by
      refine (isS_iff _).2 ⟨ho.name, s0, s1, hst1, by show (stepS L : Int) ≤ _; omega, ?_, ho.c0, ho.c1, ?_⟩
      ·
       show ((fitL s (startJ L) (stepS L : Int) (countJ L).toNat).length : Int) ≤ 131072
       rw [fitL_len]; omega
      ·
       refine List.all_eq_true.2 fun v hv => ?_
       obtain ⟨i, _, rfl⟩ := List.mem_map.1 hv
       exact aggV_isB _ _
     have hE : endS ⟨s.name, startJ L, (stepS L : Int), fitL s (startJ L) (stepS L : Int) (countJ L).toNat, s.cons⟩ = startJ L + countJ L * (stepS L : Int) := by
      unfold endS; rw [if_pos hi]
      show startJ L + ((fitL s (startJ L) (stepS L : Int) (countJ L).toNat).length : Int) * (stepS L : Int) = _
      rw [fitL_len, Int.toNat_of_nonneg c0]
     rw [hE]
     have h3 : endS s ≤ lastS L := l1 s hs
     have : countJ L * (stepS L : Int) = upI (lastS L - startJ L) (stepS L : Int) * (stepS L : Int) := rfl
     omega
 ·
  cases he
/-- what the law SeriesBuckets says of what is shrunk. -/
theorem shrunk {s : Sr} (h : Ok s) {most : Int} (h1 : 1 ≤ most) (hm : most < (s.vals.length : Int)) (hs : s.step ≤ 16777216) (hl : s.vals.length ≤ 120) :
  ∃ k m : Nat, 2 ≤ k ∧ k ≤ 120 ∧ shrinkS s most = ⟨s.name, s.start, k * s.step, fitL s s.start (k * s.step) m, s.cons⟩ ∧ (m : Int) ≤ most ∧ s.vals.length ≤ m * k ∧ m * k < s.vals.length + k ∧
   upI s.vals.length most = k ∧ upI s.vals.length k = m := by
 have hn : (0 : Int) ≤ (s.vals.length : Int) := by omega
 obtain ⟨u0, u1, u2⟩ := upI_facts hn h1
 generalize hk : upI (s.vals.length : Int) most = k' at u0 u1 u2
 obtain ⟨k, rfl⟩ : ∃ k : Nat, k' = (k : Int) := ⟨k'.toNat, by omega⟩
 have k2 : 2 ≤ k := by
  rcases Nat.lt_or_ge k 2 with hlt | hge
  ·
   exfalso
   have : (k : Int) * most ≤ 1 * most := Int.mul_le_mul_of_nonneg_right (by omega) (by omega)
   omega
  ·
   exact hge
 have k3 : k ≤ 120 := by
  rcases Nat.lt_or_ge 120 k with hlt | hge
  ·
   exfalso
   have h4 : ((k : Int) - 1) * most = k * most - most := by rw [Int.sub_mul]; omega
   have : ((k : Int) - 1) * 1 ≤ ((k : Int) - 1) * most := Int.mul_le_mul_of_nonneg_left h1 (by omega)
   omega
  ·
   exact hge
 have hk1 : (1 : Int) ≤ (k : Int) := by omega
 obtain ⟨v0, v1, v2⟩ := upI_facts hn hk1
 generalize hmm : upI (s.vals.length : Int) (k : Int) = m' at v0 v1 v2
 obtain ⟨m, rfl⟩ : ∃ m : Nat, m' = (m : Int) := ⟨m'.toNat, by omega⟩
 have hmost : (m : Int) ≤ most := by
  rcases (show most < (m : Int) ∨ (m : Int) ≤ most by omega) with hlt | hge
  ·
   exfalso
   have h4 : ((m : Int) - 1) * k = m * k - k := by rw [Int.sub_mul]; omega
   have h5 : most * k ≤ ((m : Int) - 1) * k := Int.mul_le_mul_of_nonneg_right (by omega) (by omega)
   have h6 : most * k = k * most := Int.mul_comm _ _
   omega
  ·
   exact hge
 have hp := h.p0
 have hks : (k : Int) * s.step ≤ 120 * 16777216 := Int.mul_le_mul (by omega) hs (by omega) (by omega)
 have hks1 : (1 : Int) ≤ (k : Int) * s.step := by
  have : (1 : Int) * 1 ≤ (k : Int) * s.step := Int.mul_le_mul hk1 hp (by omega) (by omega)
  omega
 refine ⟨k, m, k2, k3, ?_, hmost, by have := Int.natCast_mul m k; omega, by have := Int.natCast_mul m k; omega, rfl, hmm⟩
 have hq : ¬ 1099511627776 / (k : Int) < s.step := by
  have h7 : (16777216 : Int) ≤ 1099511627776 / (k : Int) := (Int.le_ediv_iff_mul_le (by omega)).2 (by omega)
  omega
 unfold shrinkS
 have hso : shrinkOk s most = true := by
  unfold shrinkOk; rw [(isS_iff s).2 h]; simp only [Bool.true_and, Bool.and_eq_true, decide_eq_true_eq]; exact ⟨h1, hm⟩
 rw [if_pos hso, hk, if_neg hq, hmm]
 have hml : m ≤ 131072 := by
  have h8 : (m : Int) < s.vals.length := by omega
  have := h.len
  omega
 unfold fitS
 rw [if_pos, Int.toNat_natCast]
 unfold fitOk
 rw [(isS_iff s).2 h]
 simp only [Bool.true_and, Bool.and_eq_true, decide_eq_true_eq]
 exact ⟨hks1, by omega, by omega, by omega, h.s0, h.s1⟩
end Go.Proofs.YtbdichmkgcngbaaGreat
namespace Go.Proofs.YtbdichmkgcngbaaGreat
set_option linter.unusedVariables false
set_option linter.unusedSimpArgs false
open Go.RowKit

/-- all the values of the series lie. -/
def Lie (w : World) (L : List Sq) : Prop := ∀ x ∈ L, Rv w x.A x.s.vals
theorem Lie.gr {w w' : World} {L : List Sq} (h : Lie w L) (g : Gr w w') : Lie w' L := fun x hx => (h x hx).gr g
def okL (L : List Sq) : Bool := L.all fun x => isS x.s
theorem okL_take {L : List Sq} {k : Nat} (h : k < L.length) : okL (L.take (k + 1)) = (okL (L.take k) && isS L[k].s) := by
 unfold okL; rw [List.take_succ_eq_append_getElem h, List.all_append]; simp
theorem okL_no {L : List Sq} {k : Nat} (h : k < L.length) (hb : isS L[k].s = false) : okL L = false := by
 cases hq : okL L
 ·
  rfl
 ·
  unfold okL at hq; rw [List.all_eq_true.1 hq _ (List.getElem_mem h)] at hb; cases hb

end Go.Proofs.YtbdichmkgcngbaaGreat
namespace Go.Proofs.YtbdichmkgcngbaaGreat
set_option linter.unusedVariables false
set_option linter.unusedSimpArgs false
open Go.RowKit

/-- a series is handed back, in whatever memory. -/
def RetS (s : Sr) (w : World) (e : Ending) (w' : World) : Prop := ∃ A c, e = .returned (.agg #[.string s.name, .int .i64 s.start, .int .i64 s.step, .slice A s.vals.length c, .int .i64 s.cons]) ∧ Rv w' A s.vals ∧ Gr w w' ∧ ∀ ad, A = some ad → w.heap.size ≤ ad.block
/-- a slice of values is handed back, in memory of its own. -/
def RetN (l : List Vl) (w : World) (e : Ending) (w' : World) : Prop := ∃ A c, e = .returned (.slice A l.length c) ∧ Rv w' A l ∧ Gr w w' ∧ ∀ ad, A = some ad → w.heap.size ≤ ad.block
theorem own_new {w : World} {base : Nat} {e : TypeId} {size n c : Nat} {A : Option Addr} {xs : List Value} (h : w.ownsRow base e size (.slice A n c) n xs) : ∀ ad, A = some ad → base ≤ ad.block := by
 intro ad had
 subst had
 obtain ⟨_, ⟨hv, _⟩ | ⟨g, cap, cur, hv, hb, _⟩⟩ := h
 ·
  injection hv with h1; cases h1
 ·
  injection hv with h1
  injection h1 with h1
  rw [h1]; exact hb
theorem Rv.set {w : World} {A : Option Addr} {l : List Vl} (h : Rv w A l) (p : Addr) (u : Value) (hne : ∀ ad, A = some ad → p.block < ad.block) : Rv (w.setCell p u) A l :=
 ⟨h.1, fun hn => by
  obtain ⟨ad, e, hb, hc⟩ := h.2 hn
  refine ⟨ad, e, by simpa using hb, fun j u' hu => ?_⟩
  rw [World.cell?_setCell_far _ _ _ _ (by rw [add_blk]; exact Nat.ne_of_lt (hne ad e))]
  exact hc j u' hu⟩
theorem own_empty (w : World) (base : Nat) (hb : base ≤ w.heap.size) (e : TypeId) (size : Nat) : (w.alloc (.cells #[] e)).ownsRow base e size (.slice (some ⟨w.heap.size, 0, none⟩) 0 0) 0 [] :=
 ⟨by simp, .inr ⟨w.heap.size, 0, #[], rfl, hb, heap_alloc_new w _, Nat.le_refl _, by unfold maxLen; omega, by simp, by simp⟩⟩

set_option maxRecDepth 100000 in
set_option maxHeartbeats 1600000 in
theorem clone_any (A : Option Addr) (c : Nat) (l : List Vl) (w : World) (hl : l.length ≤ 1000000) (hr : Rv w A l) :
  Calls Tryz.prog 66 #[.slice A l.length c] w (RetN l w) := by
 cases A with
 | none =>
  have h0 : l = [] := by
   rcases Nat.eq_zero_or_pos l.length with h | h
   ·
    exact List.eq_nil_of_length_eq_zero h
   ·
    obtain ⟨ad, e, _⟩ := hr.2 h; cases e
  subst h0
  have q22 : ∀ (w : World) (a : Option Addr) (n c n' c' : Nat), (binOp .eql 28 (.slice a n c) (.slice none n' c')).run Tryz.prog w = .ok (.bool a.isNone) w := fun w a n c n' c' => Lib.run_eql_slice_nil w _ _ a n c n' c' Tryz.underlying28
  go_enter Tryz.func66, Tryz.ntmps66
  go_wp2
  go_ret
  exact ⟨none, 0, rfl, Rv.nil _ _, (by repeat (first | exact Gr.refl _ | refine Gr.alloc ?_ _ | refine Gr.drew ?_ | refine Gr.setCell ?_ (by first | (simp; done) | (simp; omega) | omega) _ | refine Gr.trans ?_ (by assumption))), fun ad h => by cases h⟩
 | some ad =>
  obtain ⟨i0, hi, hz0, hz1, hz2⟩ := info_parts info_val
  have hown0 := own_empty w w.heap.size (Nat.le_refl _) 23 2
  have hr0 := hr.gr (Gr.alloc (Gr.refl w) (.cells #[] 23))
  have q22 : ∀ (w : World) (a : Option Addr) (n c n' c' : Nat), (binOp .eql 28 (.slice a n c) (.slice none n' c')).run Tryz.prog w = .ok (.bool a.isNone) w := fun w a n c n' c' => Lib.run_eql_slice_nil w _ _ a n c n' c' Tryz.underlying28
  go_enter Tryz.func66, Tryz.ntmps66
  go_wp2_with (at_builtin; refine wpList_append_rd rfl (.tmp 5) (.tmp 6) 28 rfl w.heap.size 23 i0 _ 2 16 Tryz.underlying28 hi hz0 hz1 hz2 rfl (by decide) _ _ _ rfl hown0 (some ad) l.length c (vcells l) rfl hr0 (vcells_one _) (by unfold maxLen; omega) (by omega) (by simp) ?_; intro v' w2 hown2 hgr2 hat2)
  have hg2 : Gr w w2 := Gr.grown (Gr.alloc (Gr.refl w) _) hgr2 (fun k hk => by have h : some w.heap.size = some k := hk; injection h with h; omega)
  rw [Nat.zero_add, List.nil_append] at hown2
  obtain ⟨A', c', hv⟩ := own_form hown2
  subst hv
  clear hgr2 hat2 hown0 hr0
  go_wp2
  go_ret
  exact ⟨A', c', rfl, Rd.own hown2, hg2, own_new hown2⟩

end Go.Proofs.YtbdichmkgcngbaaGreat
namespace Go.Proofs.YtbdichmkgcngbaaGreat
set_option linter.unusedVariables false
set_option linter.unusedSimpArgs false
open Go.RowKit

theorem fold_next {S : List Sr} {k : Nat} (h : k < S.length) {β : Type} (f : β → Sr → β) (a : β) : (S.take (k + 1)).foldl f a = f ((S.take k).foldl f a) S[k] := by
 rw [List.take_succ_eq_append_getElem h, List.foldl_append]; rfl
theorem step_next {S : List Sr} {k : Nat} (h : k < S.length) : stepS (S.take (k + 1)) = comS (stepS (S.take k)) S[k] := fold_next h comS 1
theorem min_next {S : List Sr} {k : Nat} (h : k < S.length) (a : Int) : minS (S.take (k + 1)) a = min (minS (S.take k) a) S[k].start := fold_next h _ a
theorem last_next {S : List Sr} {k : Nat} (h : k < S.length) : lastS (S.take (k + 1)) = max (lastS (S.take k)) (endS S[k]) := fold_next h _ 0
theorem min_first {x : Sr} {r : List Sr} (h : x.start ≤ 4294967295) : minS (x :: r) x.start = minS (x :: r) 4294967295 := by
 show minS r (min x.start x.start) = minS r (min 4294967295 x.start)
 congr 1
 omega
theorem end_in {s : Sr} (h : Ok s) : 0 ≤ endS s ∧ endS s ≤ 144115192370823168 := by
 have b0 := h.s0; have b1 := h.s1; have b2 := h.p0; have b3 := h.p1; have b4 := h.len
 have m0 : 0 ≤ (s.vals.length : Int) * s.step := Int.mul_nonneg (by omega) (by omega)
 have m1 : (s.vals.length : Int) * s.step ≤ 131072 * 1099511627776 := Int.mul_le_mul b4 b3 (by omega) (by omega)
 unfold endS
 rw [if_pos ((isS_iff s).2 h)]
 omega
theorem okL_all (L : List Sq) : okL L = (L.map Sq.s).all isS := by unfold okL; rw [List.all_map]; rfl
theorem com_le {st : Nat} {s : Sr} (h : st ≤ 16777216) (hp : 1 ≤ s.step) : comS st s ≤ 16777216 := by
 unfold comS; split
 ·
  omega
 ·
  exact comN_le (by omega)
/-- what is known of series that may be joined. -/
theorem join_pre {S : List Sr} (hall : S.all isS = true) (hne : S ≠ []) (hst : stepS S ≠ 0) :
  1 ≤ (stepS S : Int) ∧ (stepS S : Int) ≤ 16777216 ∧ 0 ≤ startJ S ∧ startJ S ≤ 4294967295 ∧ 0 ≤ lastS S - startJ S ∧ lastS S ≤ 144115192370823168 := by
 have hok : ∀ s ∈ S, Ok s := fun s hs => (isS_iff s).1 (List.all_eq_true.1 hall s hs)
 obtain ⟨_, hd, hle⟩ := fold_step S (fun s hs => (hok s hs).p0) 1 (by decide) (by decide) hst
 have hst1 : 1 ≤ (stepS S : Int) := by omega
 have hst2 : (stepS S : Int) ≤ 16777216 := by have : stepS S ≤ 16777216 := hle; omega
 obtain ⟨m0, m1⟩ := minS_le S 4294967295
 have m2 := minS_ge S (fun s hs => (hok s hs).s0) 4294967295 (by decide)
 have r0 := Int.emod_nonneg (minS S 4294967295) (b := (stepS S : Int)) (by omega)
 have r1 : minS S 4294967295 % (stepS S : Int) ≤ minS S 4294967295 := by
  have h := Int.mul_ediv_add_emod (minS S 4294967295) (stepS S : Int)
  have := Int.mul_nonneg (a := (stepS S : Int)) (b := minS S 4294967295 / (stepS S : Int)) (by omega) (Int.ediv_nonneg m2 (by omega))
  omega
 obtain ⟨_, l1⟩ := last_ge S 0
 have hup : ∀ (T : List Sr), (∀ s ∈ T, Ok s) → ∀ t : Int, t ≤ 144115192370823168 → T.foldl (fun t s => max t (endS s)) t ≤ 144115192370823168 := by
  intro T
  induction T with
  | nil => intro _ t h; exact h
  | cons s r ih =>
   intro hT t h
   have := (end_in (hT s (List.mem_cons_self ..))).2
   exact ih (fun u hu => hT u (List.mem_cons_of_mem _ hu)) (max t (endS s)) (by omega)
 refine ⟨hst1, hst2, by unfold startJ; omega, by unfold startJ; omega, ?_, hup S hok 0 (by decide)⟩
 obtain ⟨u, hu⟩ := List.exists_mem_of_ne_nil S hne
 have h1 := m1 u hu; have h2 := hok u hu; have h3 : endS u ≤ lastS S := l1 u hu
 have h4 : u.start ≤ endS u := by
  unfold endS; rw [if_pos ((isS_iff u).2 h2)]
  have := Int.mul_nonneg (a := (u.vals.length : Int)) (b := u.step) (by omega) (by have := h2.p0; omega)
  omega
 unfold startJ
 omega

/-- series and an error's number are handed back. -/
def RetJ (S : List Sr) (w : World) (e : Ending) (w' : World) : Prop :=
 ∃ (A : Option Addr) (M : List Sq) (c : Nat), e = .returned (.tuple #[.slice A M.length c, .int .i64 (errJ S)]) ∧ M.map Sq.s = joinS S ∧ Rl w' A M ∧ Lie w' M ∧ Gr w w'
theorem RetJ.err {S : List Sr} {w w' : World} {n : Int} (h : errJ S = n) (hn : joinS S = []) (g : Gr w w') : RetJ S w (.returned (.tuple #[.slice none 0 0, .int .i64 n])) w' :=
 ⟨none, [], 0, by rw [h]; rfl, by rw [hn]; rfl, Rd.nil _ _ _, fun x hx => absurd hx (by simp), g⟩
theorem join_no {S : List Sr} (h : errJ S ≠ 0) : joinS S = [] := by unfold joinS; rw [if_neg h]

theorem info_ser : (Tryz.prog.info? 30).map (fun i => (i.zero, i.size, i.bytes)) = some (some (.agg #[.string ⟨#[]⟩, .int .i64 0, .int .i64 0, .slice none 0 0, .int .i64 0]), 5, 64) := by kernel_rfl
theorem scells_one (L : List Sq) : ∀ u ∈ scells L, u.oneCell' = true := by
 intro u hu
 simp only [scells, List.mem_flatMap] at hu
 obtain ⟨v, _, hv⟩ := hu
 simp at hv
 rcases hv with rfl | rfl | rfl | rfl | rfl <;> rfl
theorem Rv.grown {w w' : World} {A : Option Addr} {l : List Vl} {row : Option Nat} (h : Rv w A l) (hg : w.grownBy w' row) (hne : 0 < l.length → ∀ ad, A = some ad → some ad.block ≠ row) : Rv w' A l :=
 ⟨h.1, fun hn => by
  obtain ⟨ad, e, hb, hc⟩ := h.2 hn
  exact ⟨ad, e, Nat.lt_of_lt_of_le hb hg.size, fun j u hu => hg.cell (hc j u hu) (by rw [add_blk]; exact hne hn ad e)⟩⟩
theorem Rv.blk {w : World} {A : Option Addr} {l : List Vl} (h : Rv w A l) (hn : 0 < l.length) {ad : Addr} (hA : A = some ad) : ad.block < w.heap.size := by
 obtain ⟨ad', e, hb, _⟩ := h.2 hn
 rw [hA] at e; injection e with e; subst e; exact hb
theorem new_apart {w : World} {base : Nat} {e : TypeId} {size n : Nat} {v : Value} {xs : List Value} (h : w.ownsRow base e size v n xs) {ad : Addr} (hb : w.heap.size ≤ ad.block) : some ad.block ≠ v.ownBlock := by
 intro h1
 have := (h.lt _ h1.symm).2
 omega
/-- none of the arrays of these series is the array of the row. -/
def Apart (row : Option Nat) (M : List Sq) : Prop := ∀ x ∈ M, 0 < x.s.vals.length → ∀ ad, x.A = some ad → some ad.block ≠ row
end Go.Proofs.YtbdichmkgcngbaaGreat
namespace Go.Proofs.YtbdichmkgcngbaaGreat
set_option linter.unusedVariables false
set_option linter.unusedSimpArgs false
open Go

section
variable {P : Program} {ops : Array Oper} {C : World → Prop} {Q : Act → Prop} {o : Oper} {rest : List Oper} {a : Act}
theorem q_val {v : Value} (hw : Region.wanted o (yielded ops a.tmps) = true) (h : ∀ W, C W → (execOp a.eval o).run P W = .ok (.value v) W) (hr : wpQuiet P ops C Q rest (a.put o.dst v)) :
  wpQuiet P ops C Q (o :: rest) a := by
 unfold wpQuiet
 rw [if_pos hw]
 exact ⟨v, fun W hW => by unfold Oper.quietAt; rw [h W hW]; exact ⟨rfl, rfl⟩, hr⟩
theorem q_call {v : Value} {f : FuncId} {args : Array Value} (hw : Region.wanted o (yielded ops a.tmps) = true) (h : ∀ W, C W → (execOp a.eval o).run P W = .ok (.enter f args) W)
  (hc : ∀ W, C W → Calls P f args W fun e w' => e = .returned v ∧ C w') (hr : wpQuiet P ops C Q rest (a.put o.dst v)) : wpQuiet P ops C Q (o :: rest) a := by
 unfold wpQuiet
 rw [if_pos hw]
 exact ⟨v, fun W hW => by unfold Oper.quietAt; rw [h W hW]; exact ⟨rfl, hc W hW⟩, hr⟩
theorem q_skip (hw : Region.wanted o (yielded ops a.tmps) = false) (hr : wpQuiet P ops C Q rest (a.put o.dst undef)) : wpQuiet P ops C Q (o :: rest) a := by
 unfold wpQuiet
 rw [if_neg (by rw [hw]; decide)]
 exact hr
/-- the beginning: at the class 'all that was there is as it was'. -/
theorem region_Q {id : Nat} {R : Exit → Act → World → Prop} {w : World} {l : List Oper} (hm : P.follows .mixedOrders = true) (hB : Region.lexB .any l.toArray = true)
  (h : wpQuiet P l.toArray (fun W => Gr w W) (fun a' => ∀ w', Gr w w' → R .normal a' w') l a) : (Code.region id l.toArray true).wp P R a w :=
 wp_region_quiet (C := fun W => Gr w W) hm hB (Gr.drew (Gr.refl w)) (by simpa using h)
end
end Go.Proofs.YtbdichmkgcngbaaGreat
namespace Go.Proofs.YtbdichmkgcngbaaGreat
set_option linter.unusedVariables false
set_option linter.unusedSimpArgs false
open Go.RowKit

/-- a part of a slice that reads, reads. -/
theorem Rv.sub {w : World} {ad : Addr} {l : List Vl} (h : Rv w (some ad) l) {p q : Nat} (hpq : p ≤ q) (hq : q ≤ l.length) : Rv w (some (ad.add (p * 2))) ((l.take q).drop p) := by
 refine ⟨vcells_length _, fun hn => ⟨_, rfl, ?_, fun j u hu => ?_⟩⟩
 ·
  have hl : 0 < l.length := by
   have : ((l.take q).drop p).length ≤ l.length := by simp; omega
   omega
  obtain ⟨ad', e, hb, _⟩ := h.2 hl
  injection e with e
  subst e
  rw [add_blk]; exact hb
 ·
  have hj : j < (vcells ((l.take q).drop p)).length := (List.getElem?_eq_some_iff.1 hu).1
  rw [vcells_length, List.length_drop, List.length_take] at hj
  obtain ⟨ad', e, hb, hc⟩ := h.2 (by omega)
  injection e with e
  subst e
  rw [add_two]
  refine hc _ _ ?_
  have e1 : l = l.take p ++ ((l.take q).drop p ++ l.drop q) := by
   rw [← List.append_assoc]
   have : l.take p ++ (l.take q).drop p = l.take q := by
    have h1 := List.take_append_drop p (l.take q)
    rw [List.take_take, Nat.min_eq_left hpq] at h1
    exact h1
   rw [this, List.take_append_drop]
  rw [e1, vcells_append, vcells_append, List.getElem?_append_right (by rw [vcells_length, List.length_take]; omega)]
  rw [vcells_length, List.length_take, Nat.min_eq_left (by omega), Nat.add_sub_cancel_left, List.getElem?_append_left (by rw [vcells_length, List.length_drop, List.length_take]; omega)]
  exact hu

end Go.Proofs.YtbdichmkgcngbaaGreat
