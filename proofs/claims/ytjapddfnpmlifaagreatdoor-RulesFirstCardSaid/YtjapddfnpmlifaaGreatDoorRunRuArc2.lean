/- rules.archive. · A region that draws its order, all of whose operations yield one value in every world of a class (here: all that was there is as it was): walked once, in the order of the text. Derived/Deep/Quiet.lean's law, one operation at a time. No program in sight. · RegQ's region once more, its state behind a structure, so that Lean does not reckon a guard where nobody asks for it. No program in sight. -/
import Derived.Test.YtjapddfnpmlifaaGreatDoorRunRuIntv
import Derived.Test.YtjapddfnpmlifaaGreatDoorRunRuSpec
import Derived.Deep.Quiet
namespace Go.Proofs.YtjapddfnpmlifaaGreatDoor
set_option linter.unusedVariables false
set_option linter.unusedSimpArgs false
open Go.RowKit

set_option maxRecDepth 100000 in
set_option maxHeartbeats 6400000 in
theorem rules_archive (s : ByteArray) (hs : (s.size : Int) ≤ 4096) (w : World) (hm : Ml w) : Calls Tryz.prog 38 #[.string s] w (RetA (archS s.data.toList) w) := by
 obtain ⟨A, B, ok, hcut, hAs, hBs, hx⟩ : ∃ A B : ByteArray, ∃ ok : Bool, Lib.cut s.data.toList [58] = (A.data.toList, B.data.toList, ok) ∧ (A.size : Int) ≤ 4096 ∧ (B.size : Int) ≤ 4096 ∧ archS s.data.toList = bif ok then (match unsS A.data.toList, unsS B.data.toList with
   | some (step, _), some (n, long) => bif step == 0 then none else some (step, bif long then n / step else n)
   | _, _ => none) else none := by
  have h1 := lib_cut 58 s.data.toList
  cases hc : cutS 58 s.data.toList with
  | none => exact ⟨s, ⟨#[]⟩, false, by rw [h1, hc], hs, by decide, by rw [arch_of, hc]; rfl⟩
  | some p =>
   have hl := cutS_len (show cutS 58 s.data.toList = some (p.1, p.2) by rw [hc])
   have hss : s.data.toList.length = s.size := by simp
   exact ⟨⟨p.1.toArray⟩, ⟨p.2.toArray⟩, true, by rw [h1, hc], by show ((p.1.toArray.size : Nat) : Int) ≤ 4096; rw [List.size_toArray]; omega, by show ((p.2.toArray.size : Nat) : Int) ≤ 4096; rw [List.size_toArray]; omega, by rw [arch_of, hc]; rfl⟩
 rw [hx]
 have HC := Lib.hid (fun w => cut_any s A B ok hs hcut w)
 have HA := Lib.hid (rules_unsigned A hAs)
 have HB := Lib.hid (rules_unsigned B hBs)
 have hlA := fun n b (h : unsS A.data.toList = some (n, b)) => unsS_le h
 have hlB := fun n b (h : unsS B.data.toList = some (n, b)) => unsS_le h
 clear hcut hAs hBs hx
 obtain ⟨V, hV⟩ : ∃ V, V = w.alloc (.cells #[.int .i64 0, .int .i64 0] 34) := ⟨_, rfl⟩
 have gV : Gr w V := by rw [hV]; exact Gr.alloc (Gr.refl w) _
 have hz : w.heap.size < V.heap.size := by rw [hV]; simp
 have c0 : V.cell? ⟨w.heap.size, 0, none⟩ = some (.int .i64 0) := by rw [hV]; go_simp
 have c1 : V.cell? ⟨w.heap.size, 1, none⟩ = some (.int .i64 0) := by rw [hV]; go_simp
 have f0 : V.frozen? ⟨w.heap.size, 0, none⟩ = false := by rw [hV]; go_simp
 have f1 : V.frozen? ⟨w.heap.size, 1, none⟩ = false := by rw [hV]; go_simp
 have HV := Lib.hid (And.intro gV (And.intro hz (And.intro c0 (And.intro c1 (And.intro f0 (And.intro f1 (hm.gr gV)))))))
 have HVe := Lib.hid hV
 clear gV hz c0 c1 f0 f1 hm hV
 cases ok with
 | false =>
  simp only [cond_false]
  clear hlA hlB
  go_enter Tryz.func38, Tryz.ntmps38
  go_upto_region 1 with (fail)
  rw [← HVe.out]
  go_upto_region 2 with (go_at_call 58; refine (HC.out _ HV.out.2.2.2.2.2.2).mono ?_; rintro e w1 ⟨rfl, g1⟩)
  go_upto_region 3 with (go_at_call 59; refine (HA.out _).mono ?_; rintro e w2 h2; obtain ⟨n2, b2, o2, rfl, g2⟩ := h2.weak; clear h2)
  go_upto_region 4 with (go_at_call 59; refine (HB.out _).mono ?_; rintro e w3 h3; obtain ⟨n3, b3, o3, rfl, g3⟩ := h3.weak; clear h3)
  have G9 := Lib.hid (((HV.out.1.trans g1).trans g2).trans g3)
  have hV3 := (g1.trans g2).trans g3
  have hz3 : w.heap.size < w3.heap.size := Nat.lt_of_lt_of_le HV.out.2.1 hV3.size
  have c0 := (Below.cell hV3 (p := ⟨w.heap.size, 0, none⟩) HV.out.2.1).trans HV.out.2.2.1
  have c1 := (Below.cell hV3 (p := ⟨w.heap.size, 1, none⟩) HV.out.2.1).trans HV.out.2.2.2.1
  have f0 := (Below.frozen hV3 (p := ⟨w.heap.size, 0, none⟩) HV.out.2.1).trans HV.out.2.2.2.2.1
  have f1 := (Below.frozen hV3 (p := ⟨w.heap.size, 1, none⟩) HV.out.2.1).trans HV.out.2.2.2.2.2.1
  clear hV3 g1 g2 g3 HV HVe HC HA HB
  go_wp2
  refine bodyPost_ret (v := .tuple #[.agg #[.int .i64 0, .int .i64 0], .bool false]) (by simp [results, Tryz.results38, go_sem, *]) rfl ?_
  exact ⟨rfl, (G9.out.setCell (by simp) _).setCell (by simp) _⟩
 | true =>
  simp only [cond_true]
  cases hA : unsS A.data.toList with
  | none =>
   rw [hA] at HA
   simp only
   clear hlA hlB hA
   go_enter Tryz.func38, Tryz.ntmps38
   go_upto_region 1 with (fail)
   rw [← HVe.out]
   go_upto_region 2 with (go_at_call 58; refine (HC.out _ HV.out.2.2.2.2.2.2).mono ?_; rintro e w1 ⟨rfl, g1⟩)
   go_upto_region 3 with (go_at_call 59; refine (HA.out _).mono ?_; rintro e w2 h2; obtain ⟨b2, rfl, g2⟩ := h2)
   go_upto_region 4 with (go_at_call 59; refine (HB.out _).mono ?_; rintro e w3 h3; obtain ⟨n3, b3, o3, rfl, g3⟩ := h3.weak; clear h3)
   have G9 := Lib.hid (((HV.out.1.trans g1).trans g2).trans g3)
   have hV3 := (g1.trans g2).trans g3
   have hz3 : w.heap.size < w3.heap.size := Nat.lt_of_lt_of_le HV.out.2.1 hV3.size
   have c0 := (Below.cell hV3 (p := ⟨w.heap.size, 0, none⟩) HV.out.2.1).trans HV.out.2.2.1
   have c1 := (Below.cell hV3 (p := ⟨w.heap.size, 1, none⟩) HV.out.2.1).trans HV.out.2.2.2.1
   have f0 := (Below.frozen hV3 (p := ⟨w.heap.size, 0, none⟩) HV.out.2.1).trans HV.out.2.2.2.2.1
   have f1 := (Below.frozen hV3 (p := ⟨w.heap.size, 1, none⟩) HV.out.2.1).trans HV.out.2.2.2.2.2.1
   clear hV3 g1 g2 g3 HV HVe HC HA HB
   go_wp2
   refine bodyPost_ret (v := .tuple #[.agg #[.int .i64 0, .int .i64 0], .bool false]) (by simp [results, Tryz.results38, go_sem, *]) rfl ?_
   exact ⟨rfl, (G9.out.setCell (by simp) _).setCell (by simp) _⟩
  | some pa =>
   obtain ⟨a, ba⟩ := pa
   have ha1 := hlA a ba hA
   have hai : (a : Int) ≤ 4611686018427387904 := by unfold maxN at ha1; omega
   rw [hA] at HA
   clear hA hlA ha1
   cases hB : unsS B.data.toList with
   | none =>
    rw [hB] at HB
    simp only
    clear hlB hB
    go_enter Tryz.func38, Tryz.ntmps38
    go_upto_region 1 with (fail)
    rw [← HVe.out]
    go_upto_region 2 with (go_at_call 58; refine (HC.out _ HV.out.2.2.2.2.2.2).mono ?_; rintro e w1 ⟨rfl, g1⟩)
    go_upto_region 3 with (go_at_call 59; refine (HA.out _).mono ?_; rintro e w2 h2; obtain ⟨rfl, g2⟩ := h2)
    go_upto_region 4 with (go_at_call 59; refine (HB.out _).mono ?_; rintro e w3 h3; obtain ⟨b3, rfl, g3⟩ := h3)
    have G9 := Lib.hid (((HV.out.1.trans g1).trans g2).trans g3)
    have hV3 := (g1.trans g2).trans g3
    have hz3 : w.heap.size < w3.heap.size := Nat.lt_of_lt_of_le HV.out.2.1 hV3.size
    have c0 := (Below.cell hV3 (p := ⟨w.heap.size, 0, none⟩) HV.out.2.1).trans HV.out.2.2.1
    have c1 := (Below.cell hV3 (p := ⟨w.heap.size, 1, none⟩) HV.out.2.1).trans HV.out.2.2.2.1
    have f0 := (Below.frozen hV3 (p := ⟨w.heap.size, 0, none⟩) HV.out.2.1).trans HV.out.2.2.2.2.1
    have f1 := (Below.frozen hV3 (p := ⟨w.heap.size, 1, none⟩) HV.out.2.1).trans HV.out.2.2.2.2.2.1
    clear hV3 g1 g2 g3 HV HVe HC HA HB
    go_wp2
    refine bodyPost_ret (v := .tuple #[.agg #[.int .i64 0, .int .i64 0], .bool false]) (by simp [results, Tryz.results38, go_sem, *]) rfl ?_
    exact ⟨rfl, (G9.out.setCell (by simp) _).setCell (by simp) _⟩
   | some pb =>
    obtain ⟨n, long⟩ := pb
    have hb1 := hlB n long hB
    have hbi : (n : Int) ≤ 4611686018427387904 := by unfold maxN at hb1; omega
    rw [hB] at HB
    simp only
    clear hlB hB hb1
    by_cases h0 : a = 0
    ·
     subst h0
     simp only [beq_self_eq_true, cond_true]
     go_enter Tryz.func38, Tryz.ntmps38
     go_upto_region 1 with (fail)
     rw [← HVe.out]
     go_upto_region 2 with (go_at_call 58; refine (HC.out _ HV.out.2.2.2.2.2.2).mono ?_; rintro e w1 ⟨rfl, g1⟩)
     go_upto_region 3 with (go_at_call 59; refine (HA.out _).mono ?_; rintro e w2 h2; obtain ⟨rfl, g2⟩ := h2)
     go_upto_region 4 with (go_at_call 59; refine (HB.out _).mono ?_; rintro e w3 h3; obtain ⟨rfl, g3⟩ := h3)
     have G9 := Lib.hid (((HV.out.1.trans g1).trans g2).trans g3)
     have hV3 := (g1.trans g2).trans g3
     have hz3 : w.heap.size < w3.heap.size := Nat.lt_of_lt_of_le HV.out.2.1 hV3.size
     have c0 := (Below.cell hV3 (p := ⟨w.heap.size, 0, none⟩) HV.out.2.1).trans HV.out.2.2.1
     have c1 := (Below.cell hV3 (p := ⟨w.heap.size, 1, none⟩) HV.out.2.1).trans HV.out.2.2.2.1
     have f0 := (Below.frozen hV3 (p := ⟨w.heap.size, 0, none⟩) HV.out.2.1).trans HV.out.2.2.2.2.1
     have f1 := (Below.frozen hV3 (p := ⟨w.heap.size, 1, none⟩) HV.out.2.1).trans HV.out.2.2.2.2.2.1
     clear hV3 g1 g2 g3 HV HVe HC HA HB
     go_wp2
     refine bodyPost_ret (v := .tuple #[.agg #[.int .i64 0, .int .i64 0], .bool false]) (by simp [results, Tryz.results38, go_sem, *]) rfl ?_
     exact ⟨rfl, (G9.out.setCell (by simp) _).setCell (by simp) _⟩
    ·
     have hne : (a == 0) = false := beq_eq_false_iff_ne.2 h0
     have hal : ¬ (a : Int) < 1 := by omega
     have ha0 : ¬ (a : Int) = 0 := by omega
     have ha0' : ((a : Int) == 0) = false := beq_eq_false_iff_ne.2 ha0
     simp only [hne, cond_false]
     clear hne h0
     cases long with
     | false =>
      simp only [cond_false]
      go_enter Tryz.func38, Tryz.ntmps38
      go_upto_region 1 with (fail)
      rw [← HVe.out]
      go_upto_region 2 with (go_at_call 58; refine (HC.out _ HV.out.2.2.2.2.2.2).mono ?_; rintro e w1 ⟨rfl, g1⟩)
      go_upto_region 3 with (go_at_call 59; refine (HA.out _).mono ?_; rintro e w2 h2; obtain ⟨rfl, g2⟩ := h2)
      go_upto_region 4 with (go_at_call 59; refine (HB.out _).mono ?_; rintro e w3 h3; obtain ⟨rfl, g3⟩ := h3)
      have G9 := Lib.hid (((HV.out.1.trans g1).trans g2).trans g3)
      have hV3 := (g1.trans g2).trans g3
      have hz3 : w.heap.size < w3.heap.size := Nat.lt_of_lt_of_le HV.out.2.1 hV3.size
      have c0 := (Below.cell hV3 (p := ⟨w.heap.size, 0, none⟩) HV.out.2.1).trans HV.out.2.2.1
      have c1 := (Below.cell hV3 (p := ⟨w.heap.size, 1, none⟩) HV.out.2.1).trans HV.out.2.2.2.1
      have f0 := (Below.frozen hV3 (p := ⟨w.heap.size, 0, none⟩) HV.out.2.1).trans HV.out.2.2.2.2.1
      have f1 := (Below.frozen hV3 (p := ⟨w.heap.size, 1, none⟩) HV.out.2.1).trans HV.out.2.2.2.2.2.1
      clear hV3 g1 g2 g3 HV HVe HC HA HB
      go_wp2
      refine bodyPost_ret (v := .tuple #[.agg #[.int .i64 (a : Nat), .int .i64 (n : Nat)], .bool true]) (by simp [results, Tryz.results38, go_sem, *]) rfl ?_
      exact ⟨rfl, (G9.out.setCell (by simp) _).setCell (by simp) _⟩
     | true =>
      simp only [cond_true]
      have hwd : wrap64 ((n : Int) / (a : Int)) = (n : Int) / (a : Int) := by
       have h1 := Nat.div_le_self n a
       rw [← Int.natCast_ediv]
       generalize n / a = q at *
       exact IntWalk.wrap64_in (q : Int) (by omega)
      go_enter Tryz.func38, Tryz.ntmps38
      go_upto_region 1 with (fail)
      rw [← HVe.out]
      go_upto_region 2 with (go_at_call 58; refine (HC.out _ HV.out.2.2.2.2.2.2).mono ?_; rintro e w1 ⟨rfl, g1⟩)
      go_upto_region 3 with (go_at_call 59; refine (HA.out _).mono ?_; rintro e w2 h2; obtain ⟨rfl, g2⟩ := h2)
      go_upto_region 4 with (go_at_call 59; refine (HB.out _).mono ?_; rintro e w3 h3; obtain ⟨rfl, g3⟩ := h3)
      have G9 := Lib.hid (((HV.out.1.trans g1).trans g2).trans g3)
      have hV3 := (g1.trans g2).trans g3
      have hz3 : w.heap.size < w3.heap.size := Nat.lt_of_lt_of_le HV.out.2.1 hV3.size
      have c0 := (Below.cell hV3 (p := ⟨w.heap.size, 0, none⟩) HV.out.2.1).trans HV.out.2.2.1
      have c1 := (Below.cell hV3 (p := ⟨w.heap.size, 1, none⟩) HV.out.2.1).trans HV.out.2.2.2.1
      have f0 := (Below.frozen hV3 (p := ⟨w.heap.size, 0, none⟩) HV.out.2.1).trans HV.out.2.2.2.2.1
      have f1 := (Below.frozen hV3 (p := ⟨w.heap.size, 1, none⟩) HV.out.2.1).trans HV.out.2.2.2.2.2.1
      clear hV3 g1 g2 g3 HV HVe HC HA HB
      go_wp2
      refine bodyPost_ret (v := .tuple #[.agg #[.int .i64 (a : Nat), .int .i64 ((n / a : Nat) : Nat)], .bool true]) (by simp [results, Tryz.results38, go_sem, *]) rfl ?_
      exact ⟨rfl, (G9.out.setCell (by simp) _).setCell (by simp) _⟩
end Go.Proofs.YtjapddfnpmlifaaGreatDoor
namespace Go.Proofs.YtjapddfnpmlifaaGreatDoor
set_option linter.unusedVariables false
set_option linter.unusedSimpArgs false
open Go

section
variable {P : Program} {ops : Array Oper} {C : World → Prop} {Q : Act → Prop} {o : Oper} {rest : List Oper} {a : Act}
theorem q_val {v : Value} (hw : Region.wanted o (yielded ops a.tmps) = true) (h : ∀ W, C W → (execOp a.eval o).run P W = .ok (.value v) W) (hr : wpQuiet P ops C Q rest (a.put o.dst v)) :
  wpQuiet P ops C Q (o :: rest) a := by
 unfold wpQuiet
 rw [if_pos hw]
 exact ⟨v, fun W hW => by unfold Oper.quietAt; rw [h W hW]; exact ⟨rfl, rfl⟩, hr⟩
theorem q_call {v : Value} {f : FuncId} {args : Array Value} (hw : Region.wanted o (yielded ops a.tmps) = true) (h : ∀ W, C W → (execOp a.eval o).run P W = .ok (.enter f args) W)
  (hc : ∀ W, C W → Calls P f args W fun e w' => e = .returned v ∧ C w') (hr : wpQuiet P ops C Q rest (a.put o.dst v)) : wpQuiet P ops C Q (o :: rest) a := by
 unfold wpQuiet
 rw [if_pos hw]
 exact ⟨v, fun W hW => by unfold Oper.quietAt; rw [h W hW]; exact ⟨rfl, hc W hW⟩, hr⟩
theorem q_skip (hw : Region.wanted o (yielded ops a.tmps) = false) (hr : wpQuiet P ops C Q rest (a.put o.dst undef)) : wpQuiet P ops C Q (o :: rest) a := by
 unfold wpQuiet
 rw [if_neg (by rw [hw]; decide)]
 exact hr
/-- the beginning: at the class 'all that was there is as it was'. -/
theorem region_Q {id : Nat} {R : Exit → Act → World → Prop} {w : World} {l : List Oper} (hm : P.follows .mixedOrders = true) (hB : Region.lexB .any l.toArray = true)
  (h : wpQuiet P l.toArray (fun W => Gr w W) (fun a' => ∀ w', Gr w w' → R .normal a' w') l a) : (Code.region id l.toArray true).wp P R a w :=
 wp_region_quiet (C := fun W => Gr w W) hm hB (Gr.drew (Gr.refl w)) (by simpa using h)
end
end Go.Proofs.YtjapddfnpmlifaaGreatDoor
namespace Go.Proofs.YtjapddfnpmlifaaGreatDoor
set_option linter.unusedVariables false
set_option linter.unusedSimpArgs false
open Go

structure WQ (P : Program) (ops : Array Oper) (C : World → Prop) (Q : Act → Prop) (l : List Oper) (a : Act) : Prop where
 out : wpQuiet P ops C Q l a
section
variable {P : Program} {ops : Array Oper} {C : World → Prop} {Q : Act → Prop} {o : Oper} {rest : List Oper} {a : Act}
theorem r_val {v : Value} (hw : Region.wanted o (yielded ops a.tmps) = true) (h : ∀ W, C W → (execOp a.eval o).run P W = .ok (.value v) W) (hr : WQ P ops C Q rest (a.put o.dst v)) :
  WQ P ops C Q (o :: rest) a := ⟨q_val hw h hr.out⟩
theorem r_call {v : Value} {f : FuncId} {args : Array Value} (hw : Region.wanted o (yielded ops a.tmps) = true) (h : ∀ W, C W → (execOp a.eval o).run P W = .ok (.enter f args) W)
  (hc : ∀ W, C W → Calls P f args W fun e w' => e = .returned v ∧ C w') (hr : WQ P ops C Q rest (a.put o.dst v)) : WQ P ops C Q (o :: rest) a := ⟨q_call hw h hc hr.out⟩
theorem r_skip (hw : Region.wanted o (yielded ops a.tmps) = false) (hr : WQ P ops C Q rest (a.put o.dst undef)) : WQ P ops C Q (o :: rest) a := ⟨q_skip hw hr.out⟩
theorem r_nil (h : Q a) : WQ P ops C Q [] a := ⟨wpQuiet_nil h⟩
theorem wanted_none (h : o.guard = none) (y : Nat → Option Bool) : Region.wanted o y = true := by simp [Region.wanted, h]
theorem wanted_some {i : Nat} {b : Bool} (h : o.guard = some (i, b)) {oi : Oper} (hi : ops[i]? = some oi) {d : Tmp} (hd : oi.dst = some d) {c : Bool} (hv : a.tmps[d]? = some (.bool c)) :
  Region.wanted o (yielded ops a.tmps) = (c == b) := by
 simp only [Region.wanted, h, yielded, hi, hd, hv, Option.bind_some]
 cases b <;> cases c <;> rfl
theorem region_R {id : Nat} {R : Exit → Act → World → Prop} {w : World} {l : List Oper} (hm : P.follows .mixedOrders = true) (hB : Region.lexB .any l.toArray = true)
  (h : WQ P l.toArray (fun W => Gr w W) (fun a' => ∀ w', Gr w w' → R .normal a' w') l a) : (Code.region id l.toArray true).wp P R a w := region_Q hm hB h.out
end
end Go.Proofs.YtjapddfnpmlifaaGreatDoor
