/- The law SeriesBuckets of chapter 18, walked over the contracts. -/
import Derived.Test.YtoikpkgogncdhaaSrLaw1
import Derived.Test.YtoikpkgogncdhaaRegQ
namespace Go.Proofs.Ytoikpkgogncdhaa
set_option linter.unusedVariables false
set_option linter.unusedSimpArgs false
open Go.RowKit

def FX (s T : Sr) (A A5 : Option Addr) (c c5 : Nat) (B0 B5 : Nat) (W : World) : Prop := W.cell? ⟨B0, 0, none⟩ = some (.string s.name) ∧ W.cell? ⟨B0, 1, none⟩ = some (.int .i64 s.start) ∧ W.cell? ⟨B0, 2, none⟩ = some (.int .i64 s.step) ∧ W.cell? ⟨B0, 3, none⟩ = some (.slice A s.vals.length c) ∧ W.cell? ⟨B0, 4, none⟩ = some (.int .i64 s.cons) ∧ W.cell? ⟨B5, 0, none⟩ = some (.string T.name) ∧ W.cell? ⟨B5, 1, none⟩ = some (.int .i64 T.start) ∧ W.cell? ⟨B5, 2, none⟩ = some (.int .i64 T.step) ∧ W.cell? ⟨B5, 3, none⟩ = some (.slice A5 T.vals.length c5) ∧ W.cell? ⟨B5, 4, none⟩ = some (.int .i64 T.cons) ∧ B0 < W.heap.size ∧ B5 < W.heap.size
theorem FX.gr {s T : Sr} {A A5 : Option Addr} {c c5 B0 B5 : Nat} {W W' : World} (h : FX s T A A5 c c5 B0 B5 W) (g : Gr W W') : FX s T A A5 c c5 B0 B5 W' := by
  obtain ⟨q0, q1, q2, q3, q4, x0, x1, x2, x3, x4, sq, sz⟩ := h
  exact ⟨(g.cell (p := ⟨B0, 0, none⟩) sq).trans q0, (g.cell (p := ⟨B0, 1, none⟩) sq).trans q1, (g.cell (p := ⟨B0, 2, none⟩) sq).trans q2, (g.cell (p := ⟨B0, 3, none⟩) sq).trans q3, (g.cell (p := ⟨B0, 4, none⟩) sq).trans q4, (g.cell (p := ⟨B5, 0, none⟩) sz).trans x0, (g.cell (p := ⟨B5, 1, none⟩) sz).trans x1, (g.cell (p := ⟨B5, 2, none⟩) sz).trans x2, (g.cell (p := ⟨B5, 3, none⟩) sz).trans x3, (g.cell (p := ⟨B5, 4, none⟩) sz).trans x4, Nat.lt_of_lt_of_le sq g.size, Nat.lt_of_lt_of_le sz g.size⟩
theorem shrink_same {s : Sr} {most : Int} (h : ¬ most < (s.vals.length : Int)) : shrinkS s most = s := by
  unfold shrinkS shrinkOk; simp [h]
theorem tmod_mul (k s : Int) : Int.tmod (k * s) s = 0 := Int.mul_tmod_left k s
theorem take_min {l : List Vl} {j : Nat} : l.take (min l.length j) = l.take j := by
  by_cases h : l.length ≤ j
  · rw [Nat.min_eq_left h, List.take_length, List.take_of_length_le h]
  · rw [Nat.min_eq_right (by omega)]

set_option maxRecDepth 100000 in
set_option maxHeartbeats 3200000 in
theorem law_SeriesBuckets (s : Sr) (A : Option Addr) (c : Nat) (most : Int) (w : World) (hcap : s.vals.length ≤ c) (hr : Rv w A s.vals) :
    Calls Try.prog 5 #[.agg #[.string s.name, .int .i64 s.start, .int .i64 s.step, .slice A s.vals.length c, .int .i64 s.cons], .int .i64 most] w fun e w' => e = .returned (.bool true) ∧ Gr w w' := by
  obtain ⟨W, hW⟩ : ∃ W, W = (w.alloc (.cells #[.string s.name, .int .i64 s.start, .int .i64 s.step, .slice A s.vals.length c, .int .i64 s.cons] 24)) := ⟨_, rfl⟩
  have hgW : Gr w W := by rw [hW]; exact Gr.alloc (Gr.refl _) _
  have hWz : W.heap.size = w.heap.size + 1 := by rw [hW]; simp
  have hQ : FQ s A c w.heap.size W := by
    rw [hW]
    refine ⟨?_, ?_, ?_, ?_, ?_, ?_⟩
    all_goals first | (go_simp; done) | (simp; done)
  have hRl := Rl.new (W := W) hWz.symm 24 [⟨s, A, c⟩]
  have HH := Lib.hid (heavy_any (some ⟨w.heap.size + 1, 0, none⟩) 1 [⟨s, A, c⟩] _ hRl)
  have hQ2 := hQ.gr (Gr.alloc (Gr.refl W) (.cells (scells [⟨s, A, c⟩]).toArray 24))
  have hg2 := Gr.alloc hgW (.cells (scells [⟨s, A, c⟩]).toArray 24)
  rw [hW] at HH hQ2 hg2
  clear hQ hgW hWz hRl hW
  go_enter Try.func5, Try.ntmps5
  go_wp2_with fail
  refine HH.out.mono ?_
  rintro e w1 ⟨⟨b, rfl, hb⟩, hg⟩
  have hQ1 := hQ2.gr hg
  have hgw := Gr.trans hg2 hg
  clear hQ2 hg2 hg HH
  cases b
  case true =>
    go_wp2
    go_ret
    exact ⟨rfl, hgw⟩
  obtain ⟨_, hLt⟩ := hb rfl
  have hLs := hLt ⟨s, A, c⟩ (by simp)
  have hl120 : (s.vals.length : Int) ≤ 120 := hLs.1
  have hl : s.vals.length ≤ 1000000 := by omega
  clear hLt hLs hb
  obtain ⟨q0, q1, q2, q3, q4, sz⟩ := id hQ1
  have QI := fun w hr => rsis_any s A c w hr
  cases hi : isS s
  case false =>
    simp only [hi] at QI
    go_wp2_with fail
    refine (QI _ (hr.gr hgw)).mono ?_
    rintro e w2 ⟨rfl, hg⟩
    go_wp2
    go_ret
    exact ⟨rfl, Gr.trans hgw hg⟩
  simp only [hi] at QI
  go_wp2_with fail
  refine (QI _ (hr.gr hgw)).mono ?_
  rintro e w2 ⟨rfl, hg⟩
  have hQ2 := hQ1.gr hg
  replace hgw := Gr.trans hgw hg
  clear hQ1 hg QI q0 q1 q2 q3 q4 sz
  obtain ⟨q0, q1, q2, q3, q4, sz⟩ := id hQ2
  by_cases h1 : 1 ≤ most
  case neg =>
    go_wp2
    go_ret
    exact ⟨rfl, hgw⟩
  by_cases h200 : most ≤ 200
  case neg =>
    go_wp2
    go_ret
    exact ⟨rfl, hgw⟩
  by_cases hst : s.step ≤ 16777216
  case neg =>
    go_wp2
    go_ret
    exact ⟨rfl, hgw⟩
  have ho := (isS_iff s).1 hi
  have b0 := ho.s0; have b1 := ho.s1; have b2 := ho.p0; have b3 := ho.p1; have b4 := ho.len
  have hs0 : s.step ≠ 0 := by omega
  have hs0' : (s.step == 0) = false := by simp [hs0]
  obtain ⟨T, hT⟩ : ∃ T, shrinkS s most = T := ⟨_, rfl⟩
  have HF1 : Hid (∀ w, Rv w A s.vals → Calls Try.prog 16 #[.agg #[.string s.name, .int .i64 s.start, .int .i64 s.step, .slice A s.vals.length c, .int .i64 s.cons], .int .i64 most] w (RetS T w)) := Lib.hid (fun w hr => by rw [← hT]; exact shrink_any s A c most w hl hcap hr)
  have HT := Lib.hid hT
  clear hT
  go_wp2_with fail
  refine (HF1.out _ (hr.gr hgw)).mono ?_
  rintro e w5 ⟨A5, c5, rfl, hr5, hg5, _⟩
  have g5 := Gr.trans hgw hg5
  have hQ5 := hQ2.gr hg5
  clear q0 q1 q2 q3 q4 sz hg5 hgw hQ2
  have hFB0 : FX s T A A5 c c5 w.heap.size w5.heap.size (w5.alloc (.cells #[.string T.name, .int .i64 T.start, .int .i64 T.step, .slice A5 T.vals.length c5, .int .i64 T.cons] 24)) := by
    obtain ⟨q0, q1, q2, q3, q4, sz⟩ := hQ5
    refine ⟨?_, ?_, ?_, ?_, ?_, ?_, ?_, ?_, ?_, ?_, ?_, ?_⟩
    all_goals first | (go_simp; done) | (simp; done) | (simp; omega)
  have g6 := Gr.alloc g5 (.cells #[.string T.name, .int .i64 T.start, .int .i64 T.step, .slice A5 T.vals.length c5, .int .i64 T.cons] 24)
  have hr6 := hr5.gr (Gr.alloc (Gr.refl w5) (.cells #[.string T.name, .int .i64 T.start, .int .i64 T.step, .slice A5 T.vals.length c5, .int .i64 T.cons] 24))
  obtain ⟨V, hV⟩ : ∃ V, V = w5.alloc (.cells #[.string T.name, .int .i64 T.start, .int .i64 T.step, .slice A5 T.vals.length c5, .int .i64 T.cons] 24) := ⟨_, rfl⟩
  by_cases hm : most < (s.vals.length : Int)
  case neg =>
    have hTs : T = s := by rw [← HT.out]; exact shrink_same hm
    subst hTs
    have t0 : Int.tmod T.step T.step = 0 := Int.tmod_self
    have t1 : Int.tdiv T.step T.step = 1 := Int.tdiv_self hs0
    obtain ⟨q0, q1, q2, q3, q4, x0, x1, x2, x3, x4, sq, sz⟩ := id hFB0
    clear HT HF1 hQ5 hFB0 hr5 hr6 g5 hV
    have hn1 : (0 : Int) ≤ (T.vals.length : Int) := by omega
    go_wp2
    go_loopw [8] (fun i wr => i = .int .i64 0 ∧ Gr (w5.alloc (.cells #[.string T.name, .int .i64 T.start, .int .i64 T.step, .slice A5 T.vals.length c5, .int .i64 T.cons] 24)) wr) (fun _ _ => 0)
    case atStart => exact ⟨rfl, Gr.refl _⟩
    case round =>
      obtain ⟨rfl, hgr⟩ := hrel
      have X3 := (hgr.cell (p := ⟨w5.heap.size, 3, none⟩) sz).trans x3
      have gw := Gr.trans g6 hgr
      clear q0 q1 q2 q3 q4 x0 x1 x2 x3 x4 g6 hgr
      by_cases hz : (0 : Int) < (T.vals.length : Int)
      · go_wp2_with fail
        refine (known18_any _).mono ?_; rintro e w8 ⟨rfl, hg8⟩
        go_wp2
        go_ret
        exact ⟨rfl, Gr.trans gw hg8⟩
      · go_wp2_with fail
        refine (known18_any _).mono ?_; rintro e w8 ⟨rfl, hg8⟩
        go_wp2
        go_ret
        exact ⟨rfl, Gr.trans gw hg8⟩
  obtain ⟨k, m, k2, k120, hsh, hmm, hnm, hmk, _, _⟩ := shrunk ho h1 hm hst (by omega)
  rw [HT.out] at hsh
  obtain ⟨tn, ts, tp, tl, tc⟩ := T
  injection hsh with e0 e1 e2 e3 e4
  subst e0 e1 e4
  have hml : tl.length = m := by rw [e3]; exact fitL_len _ _ _ _
  rw [← hml] at hmm hnm hmk
  have HTL : Hid (∀ i (h : i < tl.length), tl[i] = aggV (consS s) ((s.vals.take (i * k + k)).drop (i * k))) := Lib.hid (fun i h => by
    have e5 : tl = fitL s s.start (k * s.step) m := e3
    subst e5
    simp only [fitL, List.getElem_map, List.getElem_range]
    exact fitV_mult b2 k i)
  obtain ⟨ad, hA, _, _⟩ := hr.2 (by omega)
  subst hA
  have tm : Int.tmod tp s.step = 0 := by rw [e2]; exact tmod_mul _ _
  have tq : Int.tdiv tp s.step = k := by rw [e2]; exact Int.mul_tdiv_cancel _ hs0
  have HP : Hid (tp = k * s.step) := Lib.hid e2
  have hp0 : 0 ≤ tp := by rw [e2]; exact Int.mul_nonneg (by omega) (by omega)
  have hp1 : tp ≤ 2013265920 := by
    rw [e2]
    have : (k : Int) * s.step ≤ 120 * 16777216 := Int.mul_le_mul (by omega) hst (by omega) (by omega)
    omega
  have mk0 : ((tl.length : Int) - 1) * (k : Int) = ((tl.length * k : Nat) : Int) - k := by rw [Int.sub_mul, Int.natCast_mul]; omega
  have m8 : ((tl.length : Int) - 1) * (k : Int) < (s.vals.length : Int) := by rw [mk0]; omega
  have m8' : -120 ≤ ((tl.length : Int) - 1) * (k : Int) := by rw [mk0]; omega
  have m9 : (s.vals.length : Int) ≤ (tl.length : Int) * (k : Int) := by rw [← Int.natCast_mul]; omega
  have m9' : (tl.length : Int) * (k : Int) ≤ 1000 := by rw [← Int.natCast_mul]; omega
  have hkI : (k : Int) ≤ 120 := by omega
  have hkI2 : (2 : Int) ≤ (k : Int) := by omega
  obtain ⟨q0, q1, q2, q3, q4, x0, x1, x2, x3, x4, sq, sz⟩ := id hFB0
  clear mk0 e2 e3 hml HT HF1 hQ5 hr5 g5 hV
  go_wp2
  go_loopw [8] (fun i wr => ∃ j : Nat, j ≤ tl.length ∧ i = .int .i64 j ∧ Gr (w5.alloc (.cells #[.string s.name, .int .i64 s.start, .int .i64 tp, .slice A5 tl.length c5, .int .i64 s.cons] 24)) wr) (fun i _ => tl.length - (intOf i).toNat)
  case atStart => exact ⟨0, Nat.zero_le _, rfl, Gr.refl _⟩
  case round =>
    obtain ⟨i, hi', rfl, hgr⟩ := hrel
    have hFB := hFB0.gr hgr
    have gwr := Gr.trans g6 hgr
    clear q0 q1 q2 q3 q4 x0 x1 x2 x3 x4 sq sz
    obtain ⟨q0, q1, q2, q3, q4, x0, x1, x2, x3, x4, sq, sz⟩ := id hFB
    by_cases hlt : i < tl.length
    · obtain ⟨ad5, rfl, hb5, ev0, ev1⟩ := (hr6.gr hgr).at hlt
      have hik : i * k + k ≤ tl.length * k := by
        have h := Nat.mul_le_mul_right k (show i + 1 ≤ tl.length from hlt)
        rw [Nat.add_mul, Nat.one_mul] at h
        exact h
      obtain ⟨p, hp⟩ : ∃ p, i * k = p := ⟨_, rfl⟩
      obtain ⟨q, hq⟩ : ∃ q, min s.vals.length (p + k) = q := ⟨_, rfl⟩
      have hpq : p ≤ q := by omega
      have hql : q ≤ s.vals.length := by omega
      have hsub := Rv.sub (hr.gr gwr) hpq hql
      obtain ⟨L, hL⟩ : ∃ L, (s.vals.take q).drop p = L := ⟨_, rfl⟩
      have hWl : L.length = q - p := by rw [← hL]; simp; omega
      obtain ⟨v, hv⟩ : ∃ v, aggV (consS s) L = v := ⟨_, rfl⟩
      have hvt : tl[i] = v := by rw [HTL.out i hlt, ← hv, ← hL, ← hq, hp, take_min]
      rw [hvt] at ev0 ev1
      have HOF : Hid (∀ W, Gr wr W → Calls Try.prog 19 #[.int .i64 (consS s), .slice (if c = p then some ad else some (ad.add (p * 2))) (q - p) (c - p)] W fun e w' => e = .returned (.agg #[.bool v.ok, .int .i64 v.n]) ∧ Gr W w') := Lib.hid (fun W hW => by
        rw [← hWl, ← hv]
        refine ragg_of_any (consS s) _ (c - p) L W (by omega) ?_
        by_cases hcp : c = p
        · have : L = [] := by rw [← hL]; exact drop_take_none (by omega)
          rw [this]; exact Rv.nil _ _
        · rw [if_neg hcp, ← hL]; exact hsub.gr hW)
      have hpI : (i : Int) * (k : Int) = p := by rw [← hp]; simp
      have hqI : min (s.vals.length : Int) ((p : Int) + k) = q := by omega
      have j0 : (0 : Int) ≤ q := by omega
      have j1 : (p : Int) ≤ q := by omega
      have j2 : (q : Int) ≤ c := by omega
      have hw1 : IntKind.i64.wrap (p : Int) = p := IntWalk.i64_in _ (by omega)
      have hw2 : IntKind.i64.wrap ((p : Int) + k) = (p : Int) + k := IntWalk.i64_in _ (by omega)
      clear hv hvt hL hWl hq hp hsub hik
      go_wp2
      clear q0 q1 q2 q3 q4 x0 x1 x2 x3 x4 sq sz
      refine region_Q (by kernel_rfl) (by kernel_rfl) ?_
      refine q_val (v := ?qv1) (by rfl) (fun W hW => ?qh1) ?qr1
      case qh1 =>
          go_simp
          rfl
      simp only [Act.put, List.setIfInBounds_toArray, List.set_cons_zero, List.set_cons_succ]
      refine q_val (v := ?qv2) (by rfl) (fun W hW => ?qh2) ?qr2
      case qh2 =>
          obtain ⟨q0, q1, q2, q3, q4, x0, x1, x2, x3, x4, sq, sz⟩ := hFB.gr hW
          have hx0 := (hW.cell (p := ad5.add (i * 2)) (by rw [add_blk]; exact hb5)).trans ev0
          have hx1 := (hW.cell (p := ⟨(ad5.add (i * 2)).block, (ad5.add (i * 2)).off + 1, none⟩) (by rw [add_blk]; exact hb5)).trans ev1
          go_simp
          rfl
      simp only [Act.put, List.setIfInBounds_toArray, List.set_cons_zero, List.set_cons_succ]
      refine q_val (v := ?qv3) (by rfl) (fun W hW => ?qh3) ?qr3
      case qh3 =>
          go_simp
          rfl
      simp only [Act.put, List.setIfInBounds_toArray, List.set_cons_zero, List.set_cons_succ]
      refine q_val (v := ?qv4) (by rfl) (fun W hW => ?qh4) ?qr4
      case qh4 =>
          go_simp
          rfl
      simp only [Act.put, List.setIfInBounds_toArray, List.set_cons_zero, List.set_cons_succ]
      refine q_val (v := ?qv5) (by rfl) (fun W hW => ?qh5) ?qr5
      case qh5 =>
          obtain ⟨q0, q1, q2, q3, q4, x0, x1, x2, x3, x4, sq, sz⟩ := hFB.gr hW
          have hx0 := (hW.cell (p := ad5.add (i * 2)) (by rw [add_blk]; exact hb5)).trans ev0
          have hx1 := (hW.cell (p := ⟨(ad5.add (i * 2)).block, (ad5.add (i * 2)).off + 1, none⟩) (by rw [add_blk]; exact hb5)).trans ev1
          go_simp
          rfl
      simp only [Act.put, List.setIfInBounds_toArray, List.set_cons_zero, List.set_cons_succ]
      refine q_val (v := ?qv6) (by rfl) (fun W hW => ?qh6) ?qr6
      case qh6 =>
          obtain ⟨q0, q1, q2, q3, q4, x0, x1, x2, x3, x4, sq, sz⟩ := hFB.gr hW
          have hx0 := (hW.cell (p := ad5.add (i * 2)) (by rw [add_blk]; exact hb5)).trans ev0
          have hx1 := (hW.cell (p := ⟨(ad5.add (i * 2)).block, (ad5.add (i * 2)).off + 1, none⟩) (by rw [add_blk]; exact hb5)).trans ev1
          go_simp
          rfl
      simp only [Act.put, List.setIfInBounds_toArray, List.set_cons_zero, List.set_cons_succ]
      refine q_call (v := .int .i64 (consS s)) (f := ?qf7) (args := ?qa7) (by rfl) (fun W hW => ?qh7) (fun W hW => ?qc7) ?qr7
      case qh7 =>
        go_simp
        constructor
        · rfl
        · rfl
      case qc7 => exact (rscons_any s (some ad) c W ((hr.gr gwr).gr hW)).mono (fun e w' h => ⟨h.1, Gr.trans hW h.2⟩)
      simp only [Act.put, List.setIfInBounds_toArray, List.set_cons_zero, List.set_cons_succ]
      refine q_val (v := ?qv8) (by rfl) (fun W hW => ?qh8) ?qr8
      case qh8 =>
          go_simp
          rfl
      simp only [Act.put, List.setIfInBounds_toArray, List.set_cons_zero, List.set_cons_succ]
      refine q_val (v := ?qv9) (by rfl) (fun W hW => ?qh9) ?qr9
      case qh9 =>
          obtain ⟨q0, q1, q2, q3, q4, x0, x1, x2, x3, x4, sq, sz⟩ := hFB.gr hW
          have hx0 := (hW.cell (p := ad5.add (i * 2)) (by rw [add_blk]; exact hb5)).trans ev0
          have hx1 := (hW.cell (p := ⟨(ad5.add (i * 2)).block, (ad5.add (i * 2)).off + 1, none⟩) (by rw [add_blk]; exact hb5)).trans ev1
          go_simp
          rfl
      simp only [Act.put, List.setIfInBounds_toArray, List.set_cons_zero, List.set_cons_succ]
      refine q_val (v := ?qv10) (by rfl) (fun W hW => ?qh10) ?qr10
      case qh10 =>
          go_simp
          rfl
      simp only [Act.put, List.setIfInBounds_toArray, List.set_cons_zero, List.set_cons_succ]
      refine q_val (v := ?qv11) (by rfl) (fun W hW => ?qh11) ?qr11
      case qh11 =>
          go_simp
          rfl
      simp only [Act.put, List.setIfInBounds_toArray, List.set_cons_zero, List.set_cons_succ]
      refine q_val (v := ?qv12) (by rfl) (fun W hW => ?qh12) ?qr12
      case qh12 =>
          go_simp
          rfl
      simp only [Act.put, List.setIfInBounds_toArray, List.set_cons_zero, List.set_cons_succ]
      refine q_val (v := ?qv13) (by rfl) (fun W hW => ?qh13) ?qr13
      case qh13 =>
          go_simp
          rfl
      simp only [Act.put, List.setIfInBounds_toArray, List.set_cons_zero, List.set_cons_succ]
      refine q_val (v := ?qv14) (by rfl) (fun W hW => ?qh14) ?qr14
      case qh14 =>
          go_simp
          rfl
      simp only [Act.put, List.setIfInBounds_toArray, List.set_cons_zero, List.set_cons_succ]
      refine q_val (v := ?qv15) (by rfl) (fun W hW => ?qh15) ?qr15
      case qh15 =>
          go_simp
          rfl
      simp only [Act.put, List.setIfInBounds_toArray, List.set_cons_zero, List.set_cons_succ]
      refine q_val (v := ?qv16) (by rfl) (fun W hW => ?qh16) ?qr16
      case qh16 =>
          go_simp
          rfl
      simp only [Act.put, List.setIfInBounds_toArray, List.set_cons_zero, List.set_cons_succ]
      refine q_val (v := ?qv17) (by rfl) (fun W hW => ?qh17) ?qr17
      case qh17 =>
          go_simp
          rfl
      simp only [Act.put, List.setIfInBounds_toArray, List.set_cons_zero, List.set_cons_succ]
      refine q_val (v := ?qv18) (by rfl) (fun W hW => ?qh18) ?qr18
      case qh18 =>
          go_simp
          rfl
      simp only [Act.put, List.setIfInBounds_toArray, List.set_cons_zero, List.set_cons_succ]
      refine q_val (v := ?qv19) (by rfl) (fun W hW => ?qh19) ?qr19
      case qh19 =>
          go_simp
          rfl
      simp only [Act.put, List.setIfInBounds_toArray, List.set_cons_zero, List.set_cons_succ]
      refine q_val (v := ?qv20) (by rfl) (fun W hW => ?qh20) ?qr20
      case qh20 =>
          go_simp
          rfl
      simp only [Act.put, List.setIfInBounds_toArray, List.set_cons_zero, List.set_cons_succ]
      refine q_call (v := .agg #[.bool v.ok, .int .i64 v.n]) (f := ?qf21) (args := ?qa21) (by rfl) (fun W hW => ?qh21) (fun W hW => ?qc21) ?qr21
      case qh21 =>
        go_simp
        constructor
        · rfl
        · rfl
      case qc21 => exact (HOF.out W hW).mono (fun e w' h => ⟨h.1, Gr.trans hW h.2⟩)
      simp only [Act.put, List.setIfInBounds_toArray, List.set_cons_zero, List.set_cons_succ]
      refine q_val (v := ?qv22) (by rfl) (fun W hW => ?qh22) ?qr22
      case qh22 =>
          go_simp
          rfl
      simp only [Act.put, List.setIfInBounds_toArray, List.set_cons_zero, List.set_cons_succ]
      refine wpQuiet_nil ?_
      intro w6 hg
      have hgr6 := Gr.trans hgr hg
      clear hg hFB HOF hgr gwr ev0 ev1 hqI hpI
      go_wp2
      go_roundw
      case rel => exact ⟨i + 1, by omega, by go_num, hgr6⟩
      case measure => simp [intOf]; omega
    · have hii : i = tl.length := by omega
      subst hii
      go_wp2_with fail
      refine (known18_any _).mono ?_; rintro e w8 ⟨rfl, hg8⟩
      go_wp2
      go_ret
      exact ⟨rfl, Gr.trans gwr hg8⟩
end Go.Proofs.Ytoikpkgogncdhaa
