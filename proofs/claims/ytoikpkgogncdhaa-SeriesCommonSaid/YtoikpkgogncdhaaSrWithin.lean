/- Contracts of series.within and of its closure: the values of a series whose times lie in a span. -/
import Derived.Test.YtoikpkgogncdhaaSrBase
import Derived.Test.YtoikpkgogncdhaaRegQ
import Derived.Lib.Hide
import Derived.BigQuiet
namespace Go.Proofs.Ytoikpkgogncdhaa
set_option linter.unusedVariables false
set_option linter.unusedSimpArgs false
open Go.RowKit

/-- a part of a slice that reads, reads. -/
theorem Rv.sub {w : World} {ad : Addr} {l : List Vl} (h : Rv w (some ad) l) {p q : Nat} (hpq : p ≤ q) (hq : q ≤ l.length) : Rv w (some (ad.add (p * 2))) ((l.take q).drop p) := by
  refine ⟨vcells_length _, fun hn => ⟨_, rfl, ?_, fun j u hu => ?_⟩⟩
  · have hl : 0 < l.length := by
      have : ((l.take q).drop p).length ≤ l.length := by simp; omega
      omega
    obtain ⟨ad', e, hb, _⟩ := h.2 hl
    injection e with e
    subst e
    rw [add_blk]; exact hb
  · have hj : j < (vcells ((l.take q).drop p)).length := (List.getElem?_eq_some_iff.1 hu).1
    rw [vcells_length, List.length_drop, List.length_take] at hj
    obtain ⟨ad', e, hb, hc⟩ := h.2 (by omega)
    injection e with e
    subst e
    rw [add_two]
    refine hc _ _ ?_
    have e1 : l = l.take p ++ ((l.take q).drop p ++ l.drop q) := by
      rw [← List.append_assoc]
      have : l.take p ++ (l.take q).drop p = l.take q := by
        have h1 := List.take_append_drop p (l.take q)
        rw [List.take_take, Nat.min_eq_left hpq] at h1
        exact h1
      rw [this, List.take_append_drop]
    rw [e1, vcells_append, vcells_append, List.getElem?_append_right (by rw [vcells_length, List.length_take]; omega)]
    rw [vcells_length, List.length_take, Nat.min_eq_left (by omega), Nat.add_sub_cancel_left, List.getElem?_append_left (by rw [vcells_length, List.length_drop, List.length_take]; omega)]
    exact hu

set_option maxRecDepth 100000 in
set_option maxHeartbeats 1600000 in
theorem place_any (s : Sr) (A : Option Addr) (c : Nat) (ho : Ok s) (t : Int) (t0 : 0 ≤ t) (t1 : t ≤ 1152921504606846976) (B : Nat) (w : World) (hB : B < w.heap.size)
    (h1 : w.cell? ⟨B, 1, none⟩ = some (.int .i64 s.start)) (h2 : w.cell? ⟨B, 2, none⟩ = some (.int .i64 s.step)) (h3 : w.cell? ⟨B, 3, none⟩ = some (.slice A s.vals.length c)) :
    Calls Try.prog 57 #[.int .i64 t, .pointer (some ⟨B, 0, none⟩)] w fun e w' => e = .returned (.int .i64 (plS s t : Nat)) ∧ Gr w w' := by
  have b0 := ho.s0; have b1 := ho.s1; have b2 := ho.p0; have b3 := ho.p1; have b4 := ho.len
  clear ho
  by_cases hle : t ≤ s.start
  · have hS : plS s t = 0 := by unfold plS; rw [if_pos hle]
    rw [hS]
    clear hS
    go_enter Try.func57, Try.ntmps57
    go_wp2
    go_ret
    exact ⟨rfl, Gr.refl _⟩
  · have hd0 := Int.ediv_nonneg (a := t - s.start - 1) (b := s.step) (by omega) (by omega)
    have hd1 : (t - s.start - 1) / s.step ≤ t - s.start - 1 := Int.ediv_le_self _ (by omega)
    have hS : (plS s t : Int) = if (s.vals.length : Int) ≤ (t - s.start - 1) / s.step + 1 then (s.vals.length : Int) else (t - s.start - 1) / s.step + 1 := by
      unfold plS; rw [if_neg hle]; split <;> omega
    have hq : (t - s.start - 1) / s.step = Int.tdiv (t - s.start - 1) s.step := (Int.tdiv_eq_ediv_of_nonneg (by omega)).symm
    rw [hq] at hd0 hd1 hS
    have hb : s.step ≠ 0 := by omega
    have hb' : (s.step == 0) = false := by simp [hb]
    clear hq
    by_cases hm : (s.vals.length : Int) ≤ Int.tdiv (t - s.start - 1) s.step + 1
    · rw [if_pos hm] at hS
      rw [hS]
      clear hS
      go_enter Try.func57, Try.ntmps57
      go_wp2
      go_quiet (fail)
      go_wp2
      go_ret
      exact ⟨by simp [Int.min_def, hm], (by repeat (first | exact Gr.refl _ | assumption | refine Gr.drewN ?_ _ | refine Gr.alloc ?_ _ | refine Gr.drew ?_ | refine Gr.setCell ?_ (by first | (simp; done) | (simp; omega) | omega) _ | refine Gr.trans ?_ (by assumption)))⟩
    · rw [if_neg hm] at hS
      rw [hS]
      clear hS
      go_enter Try.func57, Try.ntmps57
      go_wp2
      go_quiet (fail)
      go_wp2
      go_ret
      exact ⟨by simp [Int.min_def, hm]; omega, (by repeat (first | exact Gr.refl _ | assumption | refine Gr.drewN ?_ _ | refine Gr.alloc ?_ _ | refine Gr.drew ?_ | refine Gr.setCell ?_ (by first | (simp; done) | (simp; omega) | omega) _ | refine Gr.trans ?_ (by assumption)))⟩

set_option maxRecDepth 100000 in
set_option maxHeartbeats 1600000 in
theorem within_any (s : Sr) (ad : Addr) (c : Nat) (ho : Ok s) (a b : Int) (a0 : 0 ≤ a) (hab : a ≤ b) (b1 : b ≤ 1152921504606846976) (w : World) (hcap : s.vals.length ≤ c) (hr : Rv w (some ad) s.vals) :
    Calls Try.prog 34 #[.agg #[.string s.name, .int .i64 s.start, .int .i64 s.step, .slice (some ad) s.vals.length c, .int .i64 s.cons], .int .i64 a, .int .i64 b] w fun e w' => ∃ A' c', e = .returned (.slice A' (withinS s a b).length c') ∧ Rv w' A' (withinS s a b) ∧ Gr w w' := by
  have hlen := ho.len
  obtain ⟨p, hp⟩ : ∃ p, plS s a = p := ⟨_, rfl⟩
  obtain ⟨q, hq⟩ : ∃ q, plS s b = q := ⟨_, rfl⟩
  have hpq : p ≤ q := by rw [← hp, ← hq]; exact plS_mono ho.p0 hab
  have hql : q ≤ s.vals.length := by rw [← hq]; exact plS_le s b
  have hsub := Rv.sub hr hpq hql
  have hW : withinS s a b = (s.vals.take q).drop p := by unfold withinS; rw [hp, hq]
  have hWl : ((s.vals.take q).drop p).length = q - p := by simp; omega
  rw [hW, hWl]
  have HP := Lib.hid (And.intro hp hq)
  have hmx : max (p : Int) (q : Int) = q := by omega
  have i0 : (0 : Int) ≤ q := by omega
  have i1 : (p : Int) ≤ q := by omega
  have i2 : (q : Int) ≤ c := by omega
  have i3 : (c : Int) ≤ c := by omega
  have HF : Hid (∀ W, Gr (w.alloc (.cells #[.string s.name, .int .i64 s.start, .int .i64 s.step, .slice (some ad) s.vals.length c, .int .i64 s.cons] 24)) W → w.heap.size < W.heap.size ∧ W.cell? ⟨w.heap.size, 1, none⟩ = some (.int .i64 s.start) ∧ W.cell? ⟨w.heap.size, 2, none⟩ = some (.int .i64 s.step) ∧ W.cell? ⟨w.heap.size, 3, none⟩ = some (.slice (some ad) s.vals.length c)) :=
    Lib.hid (fun W hW => ⟨by have := hW.size; simp at this; omega, (hW.cell (p := ⟨w.heap.size, 1, none⟩) (by simp)).trans (by go_simp), (hW.cell (p := ⟨w.heap.size, 2, none⟩) (by simp)).trans (by go_simp), (hW.cell (p := ⟨w.heap.size, 3, none⟩) (by simp)).trans (by go_simp)⟩)
  have HA : Hid (∀ W, Gr (w.alloc (.cells #[.string s.name, .int .i64 s.start, .int .i64 s.step, .slice (some ad) s.vals.length c, .int .i64 s.cons] 24)) W → Calls Try.prog 57 #[.int .i64 a, .pointer (some ⟨w.heap.size, 0, none⟩)] W fun e w' => e = .returned (.int .i64 p) ∧ Gr W w') :=
    Lib.hid (fun W hW => by obtain ⟨z, h1, h2, h3⟩ := HF.out W hW; rw [← HP.out.1]; exact place_any s (some ad) c ho a a0 (by omega) w.heap.size W z h1 h2 h3)
  have HB : Hid (∀ W, Gr (w.alloc (.cells #[.string s.name, .int .i64 s.start, .int .i64 s.step, .slice (some ad) s.vals.length c, .int .i64 s.cons] 24)) W → Calls Try.prog 57 #[.int .i64 b, .pointer (some ⟨w.heap.size, 0, none⟩)] W fun e w' => e = .returned (.int .i64 q) ∧ Gr W w') :=
    Lib.hid (fun W hW => by obtain ⟨z, h1, h2, h3⟩ := HF.out W hW; rw [← HP.out.2]; exact place_any s (some ad) c ho b (by omega) b1 w.heap.size W z h1 h2 h3)
  clear hp hq hW hWl ho a0 hab b1
  go_enter Try.func34, Try.ntmps34
  go_wp2
  refine region_Q (by kernel_rfl) (by kernel_rfl) ?_
  refine q_val (v := ?v1) (by rfl) (fun W hW => ?h1) ?r1
  case h1 =>
    go_simp
    rfl
  simp only [Act.put, List.setIfInBounds_toArray, List.set_cons_zero, List.set_cons_succ]
  refine q_val (v := ?v2) (by rfl) (fun W hW => ?h2) ?r2
  case h2 =>
    obtain ⟨z, h1, h2, h3⟩ := HF.out W hW; go_simp
    rfl
  simp only [Act.put, List.setIfInBounds_toArray, List.set_cons_zero, List.set_cons_succ]
  refine q_val (v := ?v3) (by rfl) (fun W hW => ?h3) ?r3
  case h3 =>
    go_simp
    rfl
  simp only [Act.put, List.setIfInBounds_toArray, List.set_cons_zero, List.set_cons_succ]
  refine q_val (v := ?v4) (by rfl) (fun W hW => ?h4) ?r4
  case h4 =>
    go_simp
    rfl
  simp only [Act.put, List.setIfInBounds_toArray, List.set_cons_zero, List.set_cons_succ]
  refine q_call (v := .int .i64 p) (f := ?f5) (args := ?args5) (by rfl) (fun W hW => ?h5) (fun W hW => ?c5) ?r5
  case h5 =>
    go_simp
    constructor
    · rfl
    · rfl
  case c5 => exact (HA.out W hW).mono (fun e w' h => ⟨h.1, Gr.trans hW h.2⟩)
  simp only [Act.put, List.setIfInBounds_toArray, List.set_cons_zero, List.set_cons_succ]
  refine q_val (v := ?v6) (by rfl) (fun W hW => ?h6) ?r6
  case h6 =>
    go_simp
    rfl
  simp only [Act.put, List.setIfInBounds_toArray, List.set_cons_zero, List.set_cons_succ]
  refine q_val (v := ?v7) (by rfl) (fun W hW => ?h7) ?r7
  case h7 =>
    go_simp
    rfl
  simp only [Act.put, List.setIfInBounds_toArray, List.set_cons_zero, List.set_cons_succ]
  refine q_call (v := .int .i64 p) (f := ?f8) (args := ?args8) (by rfl) (fun W hW => ?h8) (fun W hW => ?c8) ?r8
  case h8 =>
    go_simp
    constructor
    · rfl
    · rfl
  case c8 => exact (HA.out W hW).mono (fun e w' h => ⟨h.1, Gr.trans hW h.2⟩)
  simp only [Act.put, List.setIfInBounds_toArray, List.set_cons_zero, List.set_cons_succ]
  refine q_val (v := ?v9) (by rfl) (fun W hW => ?h9) ?r9
  case h9 =>
    go_simp
    rfl
  simp only [Act.put, List.setIfInBounds_toArray, List.set_cons_zero, List.set_cons_succ]
  refine q_val (v := ?v10) (by rfl) (fun W hW => ?h10) ?r10
  case h10 =>
    go_simp
    rfl
  simp only [Act.put, List.setIfInBounds_toArray, List.set_cons_zero, List.set_cons_succ]
  refine q_call (v := .int .i64 q) (f := ?f11) (args := ?args11) (by rfl) (fun W hW => ?h11) (fun W hW => ?c11) ?r11
  case h11 =>
    go_simp
    constructor
    · rfl
    · rfl
  case c11 => exact (HB.out W hW).mono (fun e w' h => ⟨h.1, Gr.trans hW h.2⟩)
  simp only [Act.put, List.setIfInBounds_toArray, List.set_cons_zero, List.set_cons_succ]
  refine q_val (v := ?v12) (by rfl) (fun W hW => ?h12) ?r12
  case h12 =>
    go_simp
    rfl
  simp only [Act.put, List.setIfInBounds_toArray, List.set_cons_zero, List.set_cons_succ]
  refine q_val (v := ?v13) (by rfl) (fun W hW => ?h13) ?r13
  case h13 =>
    go_simp
    rfl
  simp only [Act.put, List.setIfInBounds_toArray, List.set_cons_zero, List.set_cons_succ]
  refine q_val (v := ?v14) (by rfl) (fun W hW => ?h14) ?r14
  case h14 =>
    go_simp
    rfl
  simp only [Act.put, List.setIfInBounds_toArray, List.set_cons_zero, List.set_cons_succ]
  refine wpQuiet_nil ?_
  intro w1 hg
  have hres : Rv w1 (if c = p then some ad else some (ad.add (p * 2))) ((s.vals.take q).drop p) := by
    have hg0 : Gr w w1 := Gr.trans (Gr.alloc (Gr.refl w) _) hg
    by_cases hcp : c = p
    · have : (s.vals.take q).drop p = [] := drop_take_none (by omega)
      rw [this]
      exact Rv.nil _ _
    · rw [if_neg hcp]
      exact hsub.gr hg0
  have hg0 : Gr w w1 := Gr.trans (Gr.alloc (Gr.refl w) _) hg
  generalize (if c = p then some ad else some (ad.add (p * 2))) = A' at hres ⊢
  clear hg
  go_wp2
  go_ret
  exact ⟨A', _, rfl, hres, hg0⟩

set_option maxRecDepth 100000 in
set_option maxHeartbeats 1600000 in
theorem within_nil (s : Sr) (c : Nat) (ho : Ok s) (a b : Int) (a0 : 0 ≤ a) (hab : a ≤ b) (b1 : b ≤ 1152921504606846976) (w : World) (hr : Rv w none s.vals) :
    Calls Try.prog 34 #[.agg #[.string s.name, .int .i64 s.start, .int .i64 s.step, .slice none s.vals.length c, .int .i64 s.cons], .int .i64 a, .int .i64 b] w fun e w' => ∃ A' c', e = .returned (.slice A' (withinS s a b).length c') ∧ Rv w' A' (withinS s a b) ∧ Gr w w' := by
  have h0 : s.vals.length = 0 := by
    rcases Nat.eq_zero_or_pos s.vals.length with h | h
    · exact h
    · obtain ⟨ad, e, _⟩ := hr.2 h; cases e
  have hW : withinS s a b = [] := by
    refine List.eq_nil_of_length_eq_zero ?_
    rw [withinS_len]
    have := plS_le s b
    omega
  have ha : plS s a = 0 := by have := plS_le s a; omega
  have hb : plS s b = 0 := by have := plS_le s b; omega
  rw [hW]
  have HF : Hid (∀ W, Gr (w.alloc (.cells #[.string s.name, .int .i64 s.start, .int .i64 s.step, .slice none s.vals.length c, .int .i64 s.cons] 24)) W → w.heap.size < W.heap.size ∧ W.cell? ⟨w.heap.size, 1, none⟩ = some (.int .i64 s.start) ∧ W.cell? ⟨w.heap.size, 2, none⟩ = some (.int .i64 s.step) ∧ W.cell? ⟨w.heap.size, 3, none⟩ = some (.slice none s.vals.length c)) :=
    Lib.hid (fun W hW => ⟨by have := hW.size; simp at this; omega, (hW.cell (p := ⟨w.heap.size, 1, none⟩) (by simp)).trans (by go_simp), (hW.cell (p := ⟨w.heap.size, 2, none⟩) (by simp)).trans (by go_simp), (hW.cell (p := ⟨w.heap.size, 3, none⟩) (by simp)).trans (by go_simp)⟩)
  have HA : Hid (∀ W, Gr (w.alloc (.cells #[.string s.name, .int .i64 s.start, .int .i64 s.step, .slice none s.vals.length c, .int .i64 s.cons] 24)) W → Calls Try.prog 57 #[.int .i64 a, .pointer (some ⟨w.heap.size, 0, none⟩)] W fun e w' => e = .returned (.int .i64 0) ∧ Gr W w') :=
    Lib.hid (fun W hW => by obtain ⟨z, h1, h2, h3⟩ := HF.out W hW; have := place_any s none c ho a a0 (by omega) w.heap.size W z h1 h2 h3; rw [ha] at this; exact this)
  have HB : Hid (∀ W, Gr (w.alloc (.cells #[.string s.name, .int .i64 s.start, .int .i64 s.step, .slice none s.vals.length c, .int .i64 s.cons] 24)) W → Calls Try.prog 57 #[.int .i64 b, .pointer (some ⟨w.heap.size, 0, none⟩)] W fun e w' => e = .returned (.int .i64 0) ∧ Gr W w') :=
    Lib.hid (fun W hW => by obtain ⟨z, h1, h2, h3⟩ := HF.out W hW; have := place_any s none c ho b (by omega) b1 w.heap.size W z h1 h2 h3; rw [hb] at this; exact this)
  have i2 : (0 : Int) ≤ c := by omega
  clear hW ho a0 hab b1 ha hb h0
  go_enter Try.func34, Try.ntmps34
  go_wp2
  refine region_Q (by kernel_rfl) (by kernel_rfl) ?_
  refine q_val (v := ?v15) (by rfl) (fun W hW => ?h15) ?r15
  case h15 =>
    go_simp
    rfl
  simp only [Act.put, List.setIfInBounds_toArray, List.set_cons_zero, List.set_cons_succ]
  refine q_val (v := ?v16) (by rfl) (fun W hW => ?h16) ?r16
  case h16 =>
    obtain ⟨z, h1, h2, h3⟩ := HF.out W hW; go_simp
    rfl
  simp only [Act.put, List.setIfInBounds_toArray, List.set_cons_zero, List.set_cons_succ]
  refine q_val (v := ?v17) (by rfl) (fun W hW => ?h17) ?r17
  case h17 =>
    go_simp
    rfl
  simp only [Act.put, List.setIfInBounds_toArray, List.set_cons_zero, List.set_cons_succ]
  refine q_val (v := ?v18) (by rfl) (fun W hW => ?h18) ?r18
  case h18 =>
    go_simp
    rfl
  simp only [Act.put, List.setIfInBounds_toArray, List.set_cons_zero, List.set_cons_succ]
  refine q_call (v := .int .i64 0) (f := ?f19) (args := ?args19) (by rfl) (fun W hW => ?h19) (fun W hW => ?c19) ?r19
  case h19 =>
    go_simp
    constructor
    · rfl
    · rfl
  case c19 => exact (HA.out W hW).mono (fun e w' h => ⟨h.1, Gr.trans hW h.2⟩)
  simp only [Act.put, List.setIfInBounds_toArray, List.set_cons_zero, List.set_cons_succ]
  refine q_val (v := ?v20) (by rfl) (fun W hW => ?h20) ?r20
  case h20 =>
    go_simp
    rfl
  simp only [Act.put, List.setIfInBounds_toArray, List.set_cons_zero, List.set_cons_succ]
  refine q_val (v := ?v21) (by rfl) (fun W hW => ?h21) ?r21
  case h21 =>
    go_simp
    rfl
  simp only [Act.put, List.setIfInBounds_toArray, List.set_cons_zero, List.set_cons_succ]
  refine q_call (v := .int .i64 0) (f := ?f22) (args := ?args22) (by rfl) (fun W hW => ?h22) (fun W hW => ?c22) ?r22
  case h22 =>
    go_simp
    constructor
    · rfl
    · rfl
  case c22 => exact (HA.out W hW).mono (fun e w' h => ⟨h.1, Gr.trans hW h.2⟩)
  simp only [Act.put, List.setIfInBounds_toArray, List.set_cons_zero, List.set_cons_succ]
  refine q_val (v := ?v23) (by rfl) (fun W hW => ?h23) ?r23
  case h23 =>
    go_simp
    rfl
  simp only [Act.put, List.setIfInBounds_toArray, List.set_cons_zero, List.set_cons_succ]
  refine q_val (v := ?v24) (by rfl) (fun W hW => ?h24) ?r24
  case h24 =>
    go_simp
    rfl
  simp only [Act.put, List.setIfInBounds_toArray, List.set_cons_zero, List.set_cons_succ]
  refine q_call (v := .int .i64 0) (f := ?f25) (args := ?args25) (by rfl) (fun W hW => ?h25) (fun W hW => ?c25) ?r25
  case h25 =>
    go_simp
    constructor
    · rfl
    · rfl
  case c25 => exact (HB.out W hW).mono (fun e w' h => ⟨h.1, Gr.trans hW h.2⟩)
  simp only [Act.put, List.setIfInBounds_toArray, List.set_cons_zero, List.set_cons_succ]
  refine q_val (v := ?v26) (by rfl) (fun W hW => ?h26) ?r26
  case h26 =>
    go_simp
    rfl
  simp only [Act.put, List.setIfInBounds_toArray, List.set_cons_zero, List.set_cons_succ]
  refine q_val (v := ?v27) (by rfl) (fun W hW => ?h27) ?r27
  case h27 =>
    go_simp
    rfl
  simp only [Act.put, List.setIfInBounds_toArray, List.set_cons_zero, List.set_cons_succ]
  refine q_val (v := ?v28) (by rfl) (fun W hW => ?h28) ?r28
  case h28 =>
    go_simp
    rfl
  simp only [Act.put, List.setIfInBounds_toArray, List.set_cons_zero, List.set_cons_succ]
  refine wpQuiet_nil ?_
  intro w1 hg
  have hg0 : Gr w w1 := Gr.trans (Gr.alloc (Gr.refl w) _) hg
  clear hg
  go_wp2
  go_ret
  exact ⟨_, _, rfl, Rv.nil _ _, hg0⟩

theorem within_gen (s : Sr) (A : Option Addr) (c : Nat) (ho : Ok s) (a b : Int) (a0 : 0 ≤ a) (hab : a ≤ b) (b1 : b ≤ 1152921504606846976) (w : World) (hcap : s.vals.length ≤ c) (hr : Rv w A s.vals) :
    Calls Try.prog 34 #[.agg #[.string s.name, .int .i64 s.start, .int .i64 s.step, .slice A s.vals.length c, .int .i64 s.cons], .int .i64 a, .int .i64 b] w fun e w' => ∃ A' c', e = .returned (.slice A' (withinS s a b).length c') ∧ Rv w' A' (withinS s a b) ∧ Gr w w' := by
  cases A with
  | none => exact within_nil s c ho a b a0 hab b1 w hr
  | some ad => exact within_any s ad c ho a b a0 hab b1 w hcap hr
end Go.Proofs.Ytoikpkgogncdhaa
