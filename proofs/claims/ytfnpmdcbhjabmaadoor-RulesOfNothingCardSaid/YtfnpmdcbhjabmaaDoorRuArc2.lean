/- rules.archive. -/
import Derived.Test.YtfnpmdcbhjabmaaDoorRuArch
namespace Go.Proofs.YtfnpmdcbhjabmaaDoor
set_option linter.unusedVariables false
set_option linter.unusedSimpArgs false
open Go.RowKit

set_option maxRecDepth 100000 in
set_option maxHeartbeats 6400000 in
theorem rules_archive (s : ByteArray) (hs : (s.size : Int) ≤ 4096) (w : World) (hm : Ml w) : Calls Tryd.prog 14 #[.string s] w (RetA (archS s.data.toList) w) := by
  obtain ⟨A, B, ok, hcut, hAs, hBs, hx⟩ : ∃ A B : ByteArray, ∃ ok : Bool, Lib.cut s.data.toList [58] = (A.data.toList, B.data.toList, ok) ∧ (A.size : Int) ≤ 4096 ∧ (B.size : Int) ≤ 4096 ∧ archS s.data.toList = bif ok then (match unsS A.data.toList, unsS B.data.toList with
      | some (step, _), some (n, long) => bif step == 0 then none else some (step, bif long then n / step else n)
      | _, _ => none) else none := by
    have h1 := lib_cut 58 s.data.toList
    cases hc : cutS 58 s.data.toList with
    | none => exact ⟨s, ⟨#[]⟩, false, by rw [h1, hc], hs, by decide, by rw [arch_of, hc]; rfl⟩
    | some p =>
      have hl := cutS_len (show cutS 58 s.data.toList = some (p.1, p.2) by rw [hc])
      have hss : s.data.toList.length = s.size := by simp
      exact ⟨⟨p.1.toArray⟩, ⟨p.2.toArray⟩, true, by rw [h1, hc], by show ((p.1.toArray.size : Nat) : Int) ≤ 4096; rw [List.size_toArray]; omega, by show ((p.2.toArray.size : Nat) : Int) ≤ 4096; rw [List.size_toArray]; omega, by rw [arch_of, hc]; rfl⟩
  rw [hx]
  have HC := Lib.hid (fun w => cut_any s A B ok hs hcut w)
  have HA := Lib.hid (rules_unsigned A hAs)
  have HB := Lib.hid (rules_unsigned B hBs)
  have hlA := fun n b (h : unsS A.data.toList = some (n, b)) => unsS_le h
  have hlB := fun n b (h : unsS B.data.toList = some (n, b)) => unsS_le h
  clear hcut hAs hBs hx
  obtain ⟨V, hV⟩ : ∃ V, V = w.alloc (.cells #[.int .i64 0, .int .i64 0] 44) := ⟨_, rfl⟩
  have gV : Gr w V := by rw [hV]; exact Gr.alloc (Gr.refl w) _
  have hz : w.heap.size < V.heap.size := by rw [hV]; simp
  have c0 : V.cell? ⟨w.heap.size, 0, none⟩ = some (.int .i64 0) := by rw [hV]; go_simp
  have c1 : V.cell? ⟨w.heap.size, 1, none⟩ = some (.int .i64 0) := by rw [hV]; go_simp
  have f0 : V.frozen? ⟨w.heap.size, 0, none⟩ = false := by rw [hV]; go_simp
  have f1 : V.frozen? ⟨w.heap.size, 1, none⟩ = false := by rw [hV]; go_simp
  have HV := Lib.hid (And.intro gV (And.intro hz (And.intro c0 (And.intro c1 (And.intro f0 (And.intro f1 (hm.gr gV)))))))
  have HVe := Lib.hid hV
  clear gV hz c0 c1 f0 f1 hm hV
  cases ok with
  | false =>
    simp only [cond_false]
    clear hlA hlB
    go_enter Tryd.func14, Tryd.ntmps14
    go_upto_region 1 with (fail)
    rw [← HVe.out]
    go_upto_region 2 with (go_at_call 26; refine (HC.out _ HV.out.2.2.2.2.2.2).mono ?_; rintro e w1 ⟨rfl, g1⟩)
    go_upto_region 3 with (go_at_call 27; refine (HA.out _).mono ?_; rintro e w2 h2; obtain ⟨n2, b2, o2, rfl, g2⟩ := h2.weak; clear h2)
    go_upto_region 4 with (go_at_call 27; refine (HB.out _).mono ?_; rintro e w3 h3; obtain ⟨n3, b3, o3, rfl, g3⟩ := h3.weak; clear h3)
    have G9 := Lib.hid (((HV.out.1.trans g1).trans g2).trans g3)
    have hV3 := (g1.trans g2).trans g3
    have hz3 : w.heap.size < w3.heap.size := Nat.lt_of_lt_of_le HV.out.2.1 hV3.size
    have c0 := (Below.cell hV3 (p := ⟨w.heap.size, 0, none⟩) HV.out.2.1).trans HV.out.2.2.1
    have c1 := (Below.cell hV3 (p := ⟨w.heap.size, 1, none⟩) HV.out.2.1).trans HV.out.2.2.2.1
    have f0 := (Below.frozen hV3 (p := ⟨w.heap.size, 0, none⟩) HV.out.2.1).trans HV.out.2.2.2.2.1
    have f1 := (Below.frozen hV3 (p := ⟨w.heap.size, 1, none⟩) HV.out.2.1).trans HV.out.2.2.2.2.2.1
    clear hV3 g1 g2 g3 HV HVe HC HA HB
    go_wp2
    refine bodyPost_ret (v := .tuple #[.agg #[.int .i64 0, .int .i64 0], .bool false]) (by simp [results, Tryd.results14, go_sem, *]) rfl ?_
    exact ⟨rfl, (G9.out.setCell (by simp) _).setCell (by simp) _⟩
  | true =>
    simp only [cond_true]
    cases hA : unsS A.data.toList with
    | none =>
      rw [hA] at HA
      simp only
      clear hlA hlB hA
      go_enter Tryd.func14, Tryd.ntmps14
      go_upto_region 1 with (fail)
      rw [← HVe.out]
      go_upto_region 2 with (go_at_call 26; refine (HC.out _ HV.out.2.2.2.2.2.2).mono ?_; rintro e w1 ⟨rfl, g1⟩)
      go_upto_region 3 with (go_at_call 27; refine (HA.out _).mono ?_; rintro e w2 h2; obtain ⟨b2, rfl, g2⟩ := h2)
      go_upto_region 4 with (go_at_call 27; refine (HB.out _).mono ?_; rintro e w3 h3; obtain ⟨n3, b3, o3, rfl, g3⟩ := h3.weak; clear h3)
      have G9 := Lib.hid (((HV.out.1.trans g1).trans g2).trans g3)
      have hV3 := (g1.trans g2).trans g3
      have hz3 : w.heap.size < w3.heap.size := Nat.lt_of_lt_of_le HV.out.2.1 hV3.size
      have c0 := (Below.cell hV3 (p := ⟨w.heap.size, 0, none⟩) HV.out.2.1).trans HV.out.2.2.1
      have c1 := (Below.cell hV3 (p := ⟨w.heap.size, 1, none⟩) HV.out.2.1).trans HV.out.2.2.2.1
      have f0 := (Below.frozen hV3 (p := ⟨w.heap.size, 0, none⟩) HV.out.2.1).trans HV.out.2.2.2.2.1
      have f1 := (Below.frozen hV3 (p := ⟨w.heap.size, 1, none⟩) HV.out.2.1).trans HV.out.2.2.2.2.2.1
      clear hV3 g1 g2 g3 HV HVe HC HA HB
      go_wp2
      refine bodyPost_ret (v := .tuple #[.agg #[.int .i64 0, .int .i64 0], .bool false]) (by simp [results, Tryd.results14, go_sem, *]) rfl ?_
      exact ⟨rfl, (G9.out.setCell (by simp) _).setCell (by simp) _⟩
    | some pa =>
      obtain ⟨a, ba⟩ := pa
      have ha1 := hlA a ba hA
      have hai : (a : Int) ≤ 4611686018427387904 := by unfold maxN at ha1; omega
      rw [hA] at HA
      clear hA hlA ha1
      cases hB : unsS B.data.toList with
      | none =>
        rw [hB] at HB
        simp only
        clear hlB hB
        go_enter Tryd.func14, Tryd.ntmps14
        go_upto_region 1 with (fail)
        rw [← HVe.out]
        go_upto_region 2 with (go_at_call 26; refine (HC.out _ HV.out.2.2.2.2.2.2).mono ?_; rintro e w1 ⟨rfl, g1⟩)
        go_upto_region 3 with (go_at_call 27; refine (HA.out _).mono ?_; rintro e w2 h2; obtain ⟨rfl, g2⟩ := h2)
        go_upto_region 4 with (go_at_call 27; refine (HB.out _).mono ?_; rintro e w3 h3; obtain ⟨b3, rfl, g3⟩ := h3)
        have G9 := Lib.hid (((HV.out.1.trans g1).trans g2).trans g3)
        have hV3 := (g1.trans g2).trans g3
        have hz3 : w.heap.size < w3.heap.size := Nat.lt_of_lt_of_le HV.out.2.1 hV3.size
        have c0 := (Below.cell hV3 (p := ⟨w.heap.size, 0, none⟩) HV.out.2.1).trans HV.out.2.2.1
        have c1 := (Below.cell hV3 (p := ⟨w.heap.size, 1, none⟩) HV.out.2.1).trans HV.out.2.2.2.1
        have f0 := (Below.frozen hV3 (p := ⟨w.heap.size, 0, none⟩) HV.out.2.1).trans HV.out.2.2.2.2.1
        have f1 := (Below.frozen hV3 (p := ⟨w.heap.size, 1, none⟩) HV.out.2.1).trans HV.out.2.2.2.2.2.1
        clear hV3 g1 g2 g3 HV HVe HC HA HB
        go_wp2
        refine bodyPost_ret (v := .tuple #[.agg #[.int .i64 0, .int .i64 0], .bool false]) (by simp [results, Tryd.results14, go_sem, *]) rfl ?_
        exact ⟨rfl, (G9.out.setCell (by simp) _).setCell (by simp) _⟩
      | some pb =>
        obtain ⟨n, long⟩ := pb
        have hb1 := hlB n long hB
        have hbi : (n : Int) ≤ 4611686018427387904 := by unfold maxN at hb1; omega
        rw [hB] at HB
        simp only
        clear hlB hB hb1
        by_cases h0 : a = 0
        · subst h0
          simp only [beq_self_eq_true, cond_true]
          go_enter Tryd.func14, Tryd.ntmps14
          go_upto_region 1 with (fail)
          rw [← HVe.out]
          go_upto_region 2 with (go_at_call 26; refine (HC.out _ HV.out.2.2.2.2.2.2).mono ?_; rintro e w1 ⟨rfl, g1⟩)
          go_upto_region 3 with (go_at_call 27; refine (HA.out _).mono ?_; rintro e w2 h2; obtain ⟨rfl, g2⟩ := h2)
          go_upto_region 4 with (go_at_call 27; refine (HB.out _).mono ?_; rintro e w3 h3; obtain ⟨rfl, g3⟩ := h3)
          have G9 := Lib.hid (((HV.out.1.trans g1).trans g2).trans g3)
          have hV3 := (g1.trans g2).trans g3
          have hz3 : w.heap.size < w3.heap.size := Nat.lt_of_lt_of_le HV.out.2.1 hV3.size
          have c0 := (Below.cell hV3 (p := ⟨w.heap.size, 0, none⟩) HV.out.2.1).trans HV.out.2.2.1
          have c1 := (Below.cell hV3 (p := ⟨w.heap.size, 1, none⟩) HV.out.2.1).trans HV.out.2.2.2.1
          have f0 := (Below.frozen hV3 (p := ⟨w.heap.size, 0, none⟩) HV.out.2.1).trans HV.out.2.2.2.2.1
          have f1 := (Below.frozen hV3 (p := ⟨w.heap.size, 1, none⟩) HV.out.2.1).trans HV.out.2.2.2.2.2.1
          clear hV3 g1 g2 g3 HV HVe HC HA HB
          go_wp2
          refine bodyPost_ret (v := .tuple #[.agg #[.int .i64 0, .int .i64 0], .bool false]) (by simp [results, Tryd.results14, go_sem, *]) rfl ?_
          exact ⟨rfl, (G9.out.setCell (by simp) _).setCell (by simp) _⟩
        · have hne : (a == 0) = false := beq_eq_false_iff_ne.2 h0
          have hal : ¬ (a : Int) < 1 := by omega
          have ha0 : ¬ (a : Int) = 0 := by omega
          have ha0' : ((a : Int) == 0) = false := beq_eq_false_iff_ne.2 ha0
          simp only [hne, cond_false]
          clear hne h0
          cases long with
          | false =>
            simp only [cond_false]
            go_enter Tryd.func14, Tryd.ntmps14
            go_upto_region 1 with (fail)
            rw [← HVe.out]
            go_upto_region 2 with (go_at_call 26; refine (HC.out _ HV.out.2.2.2.2.2.2).mono ?_; rintro e w1 ⟨rfl, g1⟩)
            go_upto_region 3 with (go_at_call 27; refine (HA.out _).mono ?_; rintro e w2 h2; obtain ⟨rfl, g2⟩ := h2)
            go_upto_region 4 with (go_at_call 27; refine (HB.out _).mono ?_; rintro e w3 h3; obtain ⟨rfl, g3⟩ := h3)
            have G9 := Lib.hid (((HV.out.1.trans g1).trans g2).trans g3)
            have hV3 := (g1.trans g2).trans g3
            have hz3 : w.heap.size < w3.heap.size := Nat.lt_of_lt_of_le HV.out.2.1 hV3.size
            have c0 := (Below.cell hV3 (p := ⟨w.heap.size, 0, none⟩) HV.out.2.1).trans HV.out.2.2.1
            have c1 := (Below.cell hV3 (p := ⟨w.heap.size, 1, none⟩) HV.out.2.1).trans HV.out.2.2.2.1
            have f0 := (Below.frozen hV3 (p := ⟨w.heap.size, 0, none⟩) HV.out.2.1).trans HV.out.2.2.2.2.1
            have f1 := (Below.frozen hV3 (p := ⟨w.heap.size, 1, none⟩) HV.out.2.1).trans HV.out.2.2.2.2.2.1
            clear hV3 g1 g2 g3 HV HVe HC HA HB
            go_wp2
            refine bodyPost_ret (v := .tuple #[.agg #[.int .i64 (a : Nat), .int .i64 (n : Nat)], .bool true]) (by simp [results, Tryd.results14, go_sem, *]) rfl ?_
            exact ⟨rfl, (G9.out.setCell (by simp) _).setCell (by simp) _⟩
          | true =>
            simp only [cond_true]
            have hwd : wrap64 ((n : Int) / (a : Int)) = (n : Int) / (a : Int) := by
              have h1 := Nat.div_le_self n a
              rw [← Int.natCast_ediv]
              generalize n / a = q at *
              exact IntWalk.wrap64_in (q : Int) (by omega)
            go_enter Tryd.func14, Tryd.ntmps14
            go_upto_region 1 with (fail)
            rw [← HVe.out]
            go_upto_region 2 with (go_at_call 26; refine (HC.out _ HV.out.2.2.2.2.2.2).mono ?_; rintro e w1 ⟨rfl, g1⟩)
            go_upto_region 3 with (go_at_call 27; refine (HA.out _).mono ?_; rintro e w2 h2; obtain ⟨rfl, g2⟩ := h2)
            go_upto_region 4 with (go_at_call 27; refine (HB.out _).mono ?_; rintro e w3 h3; obtain ⟨rfl, g3⟩ := h3)
            have G9 := Lib.hid (((HV.out.1.trans g1).trans g2).trans g3)
            have hV3 := (g1.trans g2).trans g3
            have hz3 : w.heap.size < w3.heap.size := Nat.lt_of_lt_of_le HV.out.2.1 hV3.size
            have c0 := (Below.cell hV3 (p := ⟨w.heap.size, 0, none⟩) HV.out.2.1).trans HV.out.2.2.1
            have c1 := (Below.cell hV3 (p := ⟨w.heap.size, 1, none⟩) HV.out.2.1).trans HV.out.2.2.2.1
            have f0 := (Below.frozen hV3 (p := ⟨w.heap.size, 0, none⟩) HV.out.2.1).trans HV.out.2.2.2.2.1
            have f1 := (Below.frozen hV3 (p := ⟨w.heap.size, 1, none⟩) HV.out.2.1).trans HV.out.2.2.2.2.2.1
            clear hV3 g1 g2 g3 HV HVe HC HA HB
            go_wp2
            refine bodyPost_ret (v := .tuple #[.agg #[.int .i64 (a : Nat), .int .i64 ((n / a : Nat) : Nat)], .bool true]) (by simp [results, Tryd.results14, go_sem, *]) rfl ?_
            exact ⟨rfl, (G9.out.setCell (by simp) _).setCell (by simp) _⟩
end Go.Proofs.YtfnpmdcbhjabmaaDoor
