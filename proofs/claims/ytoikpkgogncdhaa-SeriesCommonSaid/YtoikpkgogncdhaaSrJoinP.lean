/- Series joined and shrunk, plainly: what they are, and the laws SeriesCommon, SeriesBuckets, SeriesItself of them. No program in sight. -/
import Derived.Test.YtoikpkgogncdhaaSrPlain
namespace Go.Proofs.Ytoikpkgogncdhaa
set_option linter.unusedVariables false
set_option linter.unusedSimpArgs false
open Go.RowKit

/-- the least number that is a multiple of both; 0: it is too great. -/
def comN (a b : Nat) : Nat := if 16777216 / b < a / Nat.gcd a b then 0 else a / Nat.gcd a b * b
def comS (st : Nat) (s : Sr) : Nat := if st = 0 then 0 else comN st s.step.toNat
def stepS (L : List Sr) : Nat := L.foldl comS 1
def minS (L : List Sr) (t : Int) : Int := L.foldl (fun t s => min t s.start) t
def lastS (L : List Sr) : Int := L.foldl (fun t s => max t (endS s)) 0
def startJ (L : List Sr) : Int := minS L 4294967295 - minS L 4294967295 % (stepS L : Int)
def countJ (L : List Sr) : Int := upI (lastS L - startJ L) (stepS L : Int)
def errJ (L : List Sr) : Int := if L.all isS = true then (if L = [] then 0 else if stepS L = 0 then 13 else if 131072 < countJ L then 13 else 0) else 1
def joinS (L : List Sr) : List Sr := if errJ L = 0 then L.map fun s => fitS s (startJ L) (stepS L : Int) (countJ L) else []

theorem comN_le {a b : Nat} (hb : 0 < b) : comN a b ≤ 16777216 := by
  unfold comN
  split
  · omega
  · rename_i h
    exact (Nat.le_div_iff_mul_le hb).1 (by omega)
theorem comN_pos {a b : Nat} (_ha : 0 < a) (hb : 0 < b) (h : comN a b ≠ 0) : comN a b = a / Nat.gcd a b * b ∧ 0 < comN a b ∧ a ∣ comN a b ∧ b ∣ comN a b := by
  unfold comN at h ⊢
  split at h
  · exact absurd rfl h
  · rename_i h1
    rw [if_neg h1]
    refine ⟨rfl, Nat.pos_of_ne_zero h, ?_, Nat.dvd_mul_left _ _⟩
    obtain ⟨x, hx⟩ := Nat.gcd_dvd_right a b
    refine ⟨b / Nat.gcd a b, ?_⟩
    have hg : 0 < Nat.gcd a b := Nat.gcd_pos_of_pos_right _ hb
    rw [Nat.div_mul_comm_of_dvd' a b]
where
  Nat.div_mul_comm_of_dvd' (a b : Nat) : a / Nat.gcd a b * b = a * (b / Nat.gcd a b) := by
    rcases Nat.eq_zero_or_pos (Nat.gcd a b) with h0 | hg
    · rw [h0]; simp [Nat.div_zero]
    · obtain ⟨x, hx⟩ := Nat.gcd_dvd_left a b
      obtain ⟨y, hy⟩ := Nat.gcd_dvd_right a b
      generalize Nat.gcd a b = g at *
      subst hx hy
      rw [Nat.mul_div_cancel_left _ hg, Nat.mul_div_cancel_left _ hg, Nat.mul_comm g x, Nat.mul_assoc]
theorem comS_zero (L : List Sr) : L.foldl comS 0 = 0 := by
  induction L with
  | nil => rfl
  | cons s L ih => exact ih
theorem fold_step (L : List Sr) (hp : ∀ s ∈ L, 1 ≤ s.step) : ∀ st, 0 < st → st ≤ 16777216 → L.foldl comS st ≠ 0 →
    st ∣ L.foldl comS st ∧ (∀ s ∈ L, s.step.toNat ∣ L.foldl comS st) ∧ L.foldl comS st ≤ 16777216 := by
  induction L with
  | nil => intro st h0 h1 _; exact ⟨Nat.dvd_refl _, fun s hs => absurd hs (by simp), h1⟩
  | cons s L ih =>
    intro st h0 h1 h
    have hs := hp s (List.mem_cons_self ..)
    have hsp : 0 < s.step.toNat := by omega
    have e : (s :: L).foldl comS st = L.foldl comS (comN st s.step.toNat) := by
      show L.foldl comS (comS st s) = _
      unfold comS; rw [if_neg (by omega)]
    rw [e] at h ⊢
    have hz : comN st s.step.toNat ≠ 0 := fun hz => h (by rw [hz]; exact comS_zero L)
    obtain ⟨_, c0, c1, c2⟩ := comN_pos h0 hsp hz
    obtain ⟨d0, d1, d2⟩ := ih (fun u hu => hp u (List.mem_cons_of_mem _ hu)) _ c0 (comN_le hsp) h
    refine ⟨Nat.dvd_trans c1 d0, fun u hu => ?_, d2⟩
    rcases List.mem_cons.1 hu with rfl | hu
    · exact Nat.dvd_trans c2 d0
    · exact d1 u hu
theorem minS_le (L : List Sr) : ∀ t, minS L t ≤ t ∧ ∀ s ∈ L, minS L t ≤ s.start := by
  induction L with
  | nil => intro t; exact ⟨Int.le_refl _, fun s hs => absurd hs (by simp)⟩
  | cons s L ih =>
    intro t
    obtain ⟨h0, h1⟩ := ih (min t s.start)
    show minS L (min t s.start) ≤ t ∧ _
    refine ⟨by omega, fun u hu => ?_⟩
    show minS L (min t s.start) ≤ u.start
    rcases List.mem_cons.1 hu with rfl | hu
    · omega
    · exact h1 u hu
theorem minS_ge (L : List Sr) (hp : ∀ s ∈ L, 0 ≤ s.start) : ∀ t, 0 ≤ t → 0 ≤ minS L t := by
  induction L with
  | nil => intro t h; exact h
  | cons s L ih =>
    intro t h
    have := hp s (List.mem_cons_self ..)
    exact ih (fun u hu => hp u (List.mem_cons_of_mem _ hu)) (min t s.start) (by omega)
theorem last_ge (L : List Sr) : ∀ t : Int, t ≤ L.foldl (fun t s => max t (endS s)) t ∧ ∀ s ∈ L, endS s ≤ L.foldl (fun t s => max t (endS s)) t := by
  induction L with
  | nil => intro t; exact ⟨Int.le_refl _, fun s hs => absurd hs (by simp)⟩
  | cons s L ih =>
    intro t
    obtain ⟨h0, h1⟩ := ih (max t (endS s))
    refine ⟨?_, fun u hu => ?_⟩
    · show t ≤ L.foldl (fun t s => max t (endS s)) (max t (endS s)); omega
    · show endS u ≤ L.foldl (fun t s => max t (endS s)) (max t (endS s))
      rcases List.mem_cons.1 hu with rfl | hu
      · omega
      · exact h1 u hu
theorem upI_facts {n k : Int} (hn : 0 ≤ n) (hk : 1 ≤ k) : 0 ≤ upI n k ∧ n ≤ upI n k * k ∧ upI n k * k < n + k := by
  unfold upI
  have h := Int.mul_ediv_add_emod (n + k - 1) k
  have h0 := Int.emod_nonneg (n + k - 1) (b := k) (by omega)
  have h1 := Int.emod_lt_of_pos (n + k - 1) (b := k) (by omega)
  rw [Int.mul_comm] at h
  refine ⟨Int.ediv_nonneg (by omega) (by omega), by omega, by omega⟩

/-- what the law SeriesCommon says of joined series. -/
theorem joined {L : List Sr} (he : errJ L = 0) (hne : L ≠ []) :
    1 ≤ (stepS L : Int) ∧ (stepS L : Int) ≤ 16777216 ∧ 0 ≤ startJ L ∧ startJ L ≤ 4294967295 ∧ 0 ≤ countJ L ∧ countJ L ≤ 131072 ∧
    ∀ s ∈ L, Ok s ∧ fitS s (startJ L) (stepS L : Int) (countJ L) = ⟨s.name, startJ L, (stepS L : Int), fitL s (startJ L) (stepS L : Int) (countJ L).toNat, s.cons⟩ ∧
      (stepS L : Int) % s.step = 0 ∧ startJ L ≤ s.start ∧ endS s ≤ endS (fitS s (startJ L) (stepS L : Int) (countJ L)) := by
  unfold errJ at he
  split at he
  · rename_i hall
    first
    | rw [if_neg hne] at he
    | skip
    split at he
    · cases he
    · rename_i hst
      split at he
      · cases he
      · rename_i hc
        have hok : ∀ s ∈ L, Ok s := fun s hs => (isS_iff s).1 (List.all_eq_true.1 hall s hs)
        obtain ⟨_, hd, hle⟩ := fold_step L (fun s hs => (hok s hs).p0) 1 (by decide) (by decide) hst
        have hst1 : 1 ≤ (stepS L : Int) := by have : stepS L ≠ 0 := hst; omega
        have hst2 : (stepS L : Int) ≤ 16777216 := by have : stepS L ≤ 16777216 := hle; omega
        obtain ⟨m0, m1⟩ := minS_le L 4294967295
        have m2 := minS_ge L (fun s hs => (hok s hs).s0) 4294967295 (by decide)
        have r0 := Int.emod_nonneg (minS L 4294967295) (b := (stepS L : Int)) (by omega)
        have r1 : minS L 4294967295 % (stepS L : Int) ≤ minS L 4294967295 := by
          have h := Int.mul_ediv_add_emod (minS L 4294967295) (stepS L : Int)
          have := Int.mul_nonneg (a := (stepS L : Int)) (b := minS L 4294967295 / (stepS L : Int)) (by omega) (Int.ediv_nonneg m2 (by omega))
          omega
        have s0 : 0 ≤ startJ L := by unfold startJ; omega
        have s1 : startJ L ≤ 4294967295 := by unfold startJ; omega
        have sm : startJ L ≤ minS L 4294967295 := by unfold startJ; omega
        have hend : ∀ s ∈ L, s.start ≤ endS s := fun s hs => by
          unfold endS; rw [if_pos ((isS_iff s).2 (hok s hs))]
          have := Int.mul_nonneg (a := (s.vals.length : Int)) (b := s.step) (by omega) (by have := (hok s hs).p0; omega)
          omega
        obtain ⟨_, l1⟩ := last_ge L 0
        have hl : 0 ≤ lastS L - startJ L := by
          obtain ⟨u, hu⟩ := List.exists_mem_of_ne_nil L hne
          have h1 := m1 u hu; have h2 := hend u hu; have h3 : endS u ≤ lastS L := l1 u hu
          omega
        obtain ⟨u0, u1, u2⟩ := upI_facts hl hst1
        have c0 : 0 ≤ countJ L := u0
        have c1 : countJ L ≤ 131072 := by omega
        refine ⟨hst1, hst2, s0, s1, c0, c1, fun s hs => ?_⟩
        have ho := hok s hs
        have hf : fitOk s (startJ L) (stepS L : Int) (countJ L) = true := by
          unfold fitOk
          rw [(isS_iff s).2 ho]
          simp only [Bool.true_and, Bool.and_eq_true, decide_eq_true_eq]
          exact ⟨hst1, by omega, c0, c1, s0, s1⟩
        have hfit : fitS s (startJ L) (stepS L : Int) (countJ L) = ⟨s.name, startJ L, (stepS L : Int), fitL s (startJ L) (stepS L : Int) (countJ L).toNat, s.cons⟩ := by
          unfold fitS; rw [if_pos hf]
        refine ⟨ho, hfit, ?_, by have := m1 s hs; omega, ?_⟩
        · obtain ⟨q, hq⟩ := hd s hs
          have hp := ho.p0
          have e : (stepS L : Int) = s.step * (q : Int) := by
            have : stepS L = s.step.toNat * q := hq
            rw [this, Int.natCast_mul, Int.toNat_of_nonneg (by omega)]
          rw [e]; exact Int.mul_emod_right _ _
        · rw [hfit]
          have hi : isS ⟨s.name, startJ L, (stepS L : Int), fitL s (startJ L) (stepS L : Int) (countJ L).toNat, s.cons⟩ = true := by
            refine (isS_iff _).2 ⟨ho.name, s0, s1, hst1, by show (stepS L : Int) ≤ _; omega, ?_, ho.c0, ho.c1, ?_⟩
            · show ((fitL s (startJ L) (stepS L : Int) (countJ L).toNat).length : Int) ≤ 131072
              rw [fitL_len]; omega
            · refine List.all_eq_true.2 fun v hv => ?_
              obtain ⟨i, _, rfl⟩ := List.mem_map.1 hv
              exact aggV_isB _ _
          have hE : endS ⟨s.name, startJ L, (stepS L : Int), fitL s (startJ L) (stepS L : Int) (countJ L).toNat, s.cons⟩ = startJ L + countJ L * (stepS L : Int) := by
            unfold endS; rw [if_pos hi]
            show startJ L + ((fitL s (startJ L) (stepS L : Int) (countJ L).toNat).length : Int) * (stepS L : Int) = _
            rw [fitL_len, Int.toNat_of_nonneg c0]
          rw [hE]
          have h3 : endS s ≤ lastS L := l1 s hs
          have : countJ L * (stepS L : Int) = upI (lastS L - startJ L) (stepS L : Int) * (stepS L : Int) := rfl
          omega
  · cases he
/-- what the law SeriesBuckets says of what is shrunk. -/
theorem shrunk {s : Sr} (h : Ok s) {most : Int} (h1 : 1 ≤ most) (hm : most < (s.vals.length : Int)) (hs : s.step ≤ 16777216) (hl : s.vals.length ≤ 120) :
    ∃ k m : Nat, 2 ≤ k ∧ k ≤ 120 ∧ shrinkS s most = ⟨s.name, s.start, k * s.step, fitL s s.start (k * s.step) m, s.cons⟩ ∧ (m : Int) ≤ most ∧ s.vals.length ≤ m * k ∧ m * k < s.vals.length + k ∧
      upI s.vals.length most = k ∧ upI s.vals.length k = m := by
  have hn : (0 : Int) ≤ (s.vals.length : Int) := by omega
  obtain ⟨u0, u1, u2⟩ := upI_facts hn h1
  generalize hk : upI (s.vals.length : Int) most = k' at u0 u1 u2
  obtain ⟨k, rfl⟩ : ∃ k : Nat, k' = (k : Int) := ⟨k'.toNat, by omega⟩
  have k2 : 2 ≤ k := by
    rcases Nat.lt_or_ge k 2 with hlt | hge
    · exfalso
      have : (k : Int) * most ≤ 1 * most := Int.mul_le_mul_of_nonneg_right (by omega) (by omega)
      omega
    · exact hge
  have k3 : k ≤ 120 := by
    rcases Nat.lt_or_ge 120 k with hlt | hge
    · exfalso
      have h4 : ((k : Int) - 1) * most = k * most - most := by rw [Int.sub_mul]; omega
      have : ((k : Int) - 1) * 1 ≤ ((k : Int) - 1) * most := Int.mul_le_mul_of_nonneg_left h1 (by omega)
      omega
    · exact hge
  have hk1 : (1 : Int) ≤ (k : Int) := by omega
  obtain ⟨v0, v1, v2⟩ := upI_facts hn hk1
  generalize hmm : upI (s.vals.length : Int) (k : Int) = m' at v0 v1 v2
  obtain ⟨m, rfl⟩ : ∃ m : Nat, m' = (m : Int) := ⟨m'.toNat, by omega⟩
  have hmost : (m : Int) ≤ most := by
    rcases (show most < (m : Int) ∨ (m : Int) ≤ most by omega) with hlt | hge
    · exfalso
      have h4 : ((m : Int) - 1) * k = m * k - k := by rw [Int.sub_mul]; omega
      have h5 : most * k ≤ ((m : Int) - 1) * k := Int.mul_le_mul_of_nonneg_right (by omega) (by omega)
      have h6 : most * k = k * most := Int.mul_comm _ _
      omega
    · exact hge
  have hp := h.p0
  have hks : (k : Int) * s.step ≤ 120 * 16777216 := Int.mul_le_mul (by omega) hs (by omega) (by omega)
  have hks1 : (1 : Int) ≤ (k : Int) * s.step := by
    have : (1 : Int) * 1 ≤ (k : Int) * s.step := Int.mul_le_mul hk1 hp (by omega) (by omega)
    omega
  refine ⟨k, m, k2, k3, ?_, hmost, by have := Int.natCast_mul m k; omega, by have := Int.natCast_mul m k; omega, rfl, hmm⟩
  have hq : ¬ 1099511627776 / (k : Int) < s.step := by
    have h7 : (16777216 : Int) ≤ 1099511627776 / (k : Int) := (Int.le_ediv_iff_mul_le (by omega)).2 (by omega)
    omega
  unfold shrinkS
  have hso : shrinkOk s most = true := by
    unfold shrinkOk; rw [(isS_iff s).2 h]; simp only [Bool.true_and, Bool.and_eq_true, decide_eq_true_eq]; exact ⟨h1, hm⟩
  rw [if_pos hso, hk, if_neg hq, hmm]
  have hml : m ≤ 131072 := by
    have h8 : (m : Int) < s.vals.length := by omega
    have := h.len
    omega
  unfold fitS
  rw [if_pos, Int.toNat_natCast]
  unfold fitOk
  rw [(isS_iff s).2 h]
  simp only [Bool.true_and, Bool.and_eq_true, decide_eq_true_eq]
  exact ⟨hks1, by omega, by omega, by omega, h.s0, h.s1⟩
end Go.Proofs.Ytoikpkgogncdhaa
