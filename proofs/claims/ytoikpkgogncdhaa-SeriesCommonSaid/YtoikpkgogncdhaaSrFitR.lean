/- The contract of the reference's Fit: a series at other times. -/
import Derived.Test.YtoikpkgogncdhaaSrFitB
import Derived.Test.YtoikpkgogncdhaaAgOfR
import Derived.Test.YtoikpkgogncdhaaSrIs
namespace Go.Proofs.Ytoikpkgogncdhaa
set_option linter.unusedVariables false
set_option linter.unusedSimpArgs false
open Go.RowKit

set_option maxRecDepth 100000 in
set_option maxHeartbeats 3200000 in
theorem rfit_good (s : Sr) (A : Option Addr) (c : Nat) (start step : Int) (n : Nat) (w : World) (hr : Rv w A s.vals) (ho : Ok s)
    (h_s1 : 1 ≤ step) (h_s2 : step ≤ 1099511627776) (h_n2 : (n : Int) ≤ 131072) (h_t1 : 0 ≤ start) (h_t2 : start ≤ 4294967295) :
    Calls Try.prog 14 #[.agg #[.string s.name, .int .i64 s.start, .int .i64 s.step, .slice A s.vals.length c, .int .i64 s.cons], .int .i64 start, .int .i64 step, .int .i64 (n : Nat)] w (RetS ⟨s.name, start, step, fitL s start step n, s.cons⟩ w) := by
  obtain ⟨i0, hi0, hz0, hz1, hz2⟩ := info_parts info_val
  have hlen := ho.len; have b0 := ho.s0; have b1 := ho.s1; have b2 := ho.p0; have b3 := ho.p1
  have Q := fun w hr => rsis_any s A c w hr
  simp only [(isS_iff s).2 ho] at Q
  have HLT := Lib.hid (@lt_plS s ho.p0)
  have HPL := Lib.hid (plS_le s)
  have HMO := Lib.hid (fun (a b : Int) (h : a ≤ b) => plS_mono ho.p0 h)
  clear ho
  go_enter Try.func14, Try.ntmps14
  go_wp2_with fail
  refine (Q _ ?hr).mono ?_
  case hr => exact hr.gr (by repeat (first | exact Gr.refl _ | refine Gr.alloc ?_ _ | refine Gr.drew ?_ | refine Gr.setCell ?_ (by first | (simp; done) | (simp; omega) | omega) _ | refine Gr.trans ?_ (by assumption)))
  rintro e w1 ⟨rfl, hg⟩
  have z1 := hg.size
  simp at z1
  have hz : w.heap.size + 1 < w1.heap.size := by omega
  have z0 : w.heap.size < w1.heap.size := by omega
  obtain ⟨hc, hf⟩ := hg.cells
  have q0 : w1.cell? ⟨w.heap.size, 0, none⟩ = some (.string s.name) := by go_simp
  have q1 : w1.cell? ⟨w.heap.size, 1, none⟩ = some (.int .i64 s.start) := by go_simp
  have q2 : w1.cell? ⟨w.heap.size, 2, none⟩ = some (.int .i64 s.step) := by go_simp
  have q3 : w1.cell? ⟨w.heap.size, 3, none⟩ = some (.slice A s.vals.length c) := by go_simp
  have q4 : w1.cell? ⟨w.heap.size, 4, none⟩ = some (.int .i64 s.cons) := by go_simp
  have p0 : w1.cell? ⟨w.heap.size + 1, 0, none⟩ = some (.string ⟨#[]⟩) := by go_simp
  have g0 : w1.frozen? ⟨w.heap.size + 1, 0, none⟩ = false := by go_simp
  have p1 : w1.cell? ⟨w.heap.size + 1, 1, none⟩ = some (.int .i64 0) := by go_simp
  have g1 : w1.frozen? ⟨w.heap.size + 1, 1, none⟩ = false := by go_simp
  have p2 : w1.cell? ⟨w.heap.size + 1, 2, none⟩ = some (.int .i64 0) := by go_simp
  have g2 : w1.frozen? ⟨w.heap.size + 1, 2, none⟩ = false := by go_simp
  have p3 : w1.cell? ⟨w.heap.size + 1, 3, none⟩ = some (.slice none 0 0) := by go_simp
  have g3 : w1.frozen? ⟨w.heap.size + 1, 3, none⟩ = false := by go_simp
  have p4 : w1.cell? ⟨w.heap.size + 1, 4, none⟩ = some (.int .i64 0) := by go_simp
  have g4 : w1.frozen? ⟨w.heap.size + 1, 4, none⟩ = false := by go_simp
  have hgw : Gr w w1 := (by repeat (first | exact Gr.refl _ | refine Gr.alloc ?_ _ | refine Gr.drew ?_ | refine Gr.setCell ?_ (by first | (simp; done) | (simp; omega) | omega) _ | refine Gr.trans ?_ (by assumption)))
  clear hc hf hg Q
  go_wp2
  go_loopw [10, 11, 12] (fun at_ i _ wr => ∃ (k at0 : Nat) (A' : Option Addr) (c' : Nat), k ≤ n ∧ at0 ≤ plS s (start + k * step) ∧ at_ = .int .i64 at0 ∧ i = .int .i64 k ∧ Gr w wr ∧ FC s A c start step w.heap.size w1.heap.size A' k c' wr ∧ wr.ownsRow (w1.heap.size + 1) 34 2 (.slice A' k c') k (vcells (fitL s start step k))) (fun _ i _ _ => n - (intOf i).toNat)
  case atStart =>
    refine ⟨0, 0, none, 0, Nat.zero_le _, Nat.zero_le _, rfl, rfl, Gr.alloc hgw _, ?_, World.ownsRow_nil _ _ _ _⟩
    refine ⟨?_, ?_, ?_, ?_, ?_, ?_, ?_, ?_, ?_, ?_, ?_, ?_, ?_, ?_, ?_, ?_, ?_, ?_, ?_, ?_, ?_, ?_⟩
    all_goals first | (go_simp; done) | (simp; done) | (simp; omega)
  case round =>
    obtain ⟨k, at0, A', c', hk, hat, rfl, rfl, hgr, hFC, hown⟩ := hrel
    generalize hwo : wr = wo at *
    clear hwo
    clear q0 q1 q2 q3 q4 p0 p1 p2 p3 p4 g0 g1 g2 g3 g4
    by_cases hlt : k < n
    · have m0 : 0 ≤ (k : Int) * step := Int.mul_nonneg (by omega) (by omega)
      have m1 : (k : Int) * step ≤ 144115188075855872 := by
        have : (k : Int) * step ≤ 131072 * 1099511627776 := Int.mul_le_mul (by omega) h_s2 (by omega) (by omega)
        omega
      have HT : Hid (((k : Int) + 1) * step = k * step + step) := Lib.hid (by rw [Int.add_mul]; omega)
      have m2 : 0 ≤ ((k : Int) + 1) * step := by rw [HT.out]; omega
      have m3 : ((k : Int) + 1) * step ≤ 144115188075855872 := by
        have : ((k : Int) + 1) * step ≤ 131072 * 1099511627776 := Int.mul_le_mul (by omega) h_s2 (by omega) (by omega)
        omega
      obtain ⟨p, hp⟩ : ∃ p, plS s (start + k * step) = p := ⟨_, rfl⟩
      rw [hp] at hat
      have hpt : p ≤ plS s (start + ((k : Int) + 1) * step) := by rw [← hp]; exact HMO.out _ _ (by rw [HT.out]; omega)
      have HP := Lib.hid hp; clear hp
      have HW : Hid (∀ L v j, (s.vals.take j).drop p = L → aggV (consS s) L = v → plS s (start + ((k : Int) + 1) * step) = j → fitV s start step k = v) := Lib.hid (fun L v j h1 h2 h3 => by
        unfold fitV withinS
        rw [show start + (k : Int) * step + step = start + ((k : Int) + 1) * step by rw [HT.out]; omega, h3, HP.out, h1, h2])
      have hatT : at0 ≤ plS s (start + ((k : Int) + 1) * step) := Nat.le_trans hat hpt
      have hatL := Nat.le_trans hatT (HPL.out _)
      have hzo : w1.heap.size < wo.heap.size := by obtain ⟨_, _, _, _, _, _, _, _, _, _, _, _, _, _, _, _, _, _, _, _, _, sz⟩ := hFC; exact sz
      go_wp2
      go_loopw [10, 12] (fun at_ l wr => ∃ (j : Nat) (A2 : Option Addr) (c2 : Nat) (L : List Vl), at0 ≤ j ∧ j ≤ plS s (start + ((k : Int) + 1) * step) ∧ at_ = .int .i64 j ∧ l = .slice A2 L.length c2 ∧ Gr wo wr ∧ wr.ownsRow wo.heap.size 34 2 l L.length (vcells L) ∧ Hid ((s.vals.take j).drop p = L)) (fun at_ _ _ => s.vals.length - (intOf at_).toNat)
      case atStart =>
        exact ⟨at0, none, 0, [], Nat.le_refl _, hatT, rfl, rfl, Gr.refl _, World.ownsRow_nil _ _ _ _, Lib.hid (drop_take_none hat)⟩
      case round =>
        obtain ⟨j, A2, c2, L, hj0, hjT, rfl, rfl, hgo, hownl, HL⟩ := hrel
        have hwl : L.length ≤ 131072 := by rw [← HL.out]; simp; omega
        have hFCi := hFC.gr hz hgo
        have hown1 := own_gr hown hgo
        have hgi := Gr.trans hgr hgo
        have hjL := Nat.le_trans hjT (HPL.out _)
        have n0 : 0 ≤ (j : Int) * s.step := Int.mul_nonneg (by omega) (by omega)
        have n1 : (j : Int) * s.step ≤ 144115188075855872 := by
          have : (j : Int) * s.step ≤ 131072 * 1099511627776 := Int.mul_le_mul (by omega) b3 (by omega) (by omega)
          omega
        have h := hFCi
        obtain ⟨q0, q1, q2, q3, q4, p0, p1, p2, p3, p4, g0, g1, g2, g3, g4, o0, o1, o2, o3, o4, f3, sz⟩ := h
        by_cases hjl : j < s.vals.length
        · obtain ⟨ad, hA, hb, hx0, hx1⟩ := (hr.gr hgi).at hjl
          by_cases hto : s.start + (j : Int) * s.step < start + ((k : Int) + 1) * step
          · have hjT' : j < plS s (start + ((k : Int) + 1) * step) := (HLT.out _ hjl).2 hto
            by_cases hge : start + (k : Int) * step ≤ s.start + (j : Int) * s.step
            · subst hA
              have hpj : p ≤ j := by
                rcases Nat.lt_or_ge j p with h | h
                · rw [← HP.out] at h
                  have := (HLT.out _ hjl).1 h
                  omega
                · exact h
              have Ht := Lib.hid (drop_take_succ hjl hpj)
              have hrx := Rv.new (W := wr) rfl 34 [s.vals[j]]
              have hv0 := hownl.alloc (.cells (vcells [s.vals[j]]).toArray 34)
              have hvl := hownl.lt
              have hzr := hgo.size
              go_wp2_with
                (at_builtin
                 refine wpList_append_rd rfl (.tmp 88) (.tmp 94) 22 rfl wo.heap.size 34 i0 _ 2 16 Try.underlying22 hi0 hz0 hz1 hz2 rfl (by decide) _ _ _ rfl hv0 (some ⟨wr.heap.size, 0, none⟩) 1 _ (vcells [s.vals[j]]) rfl hrx (vcells_one _) (by unfold maxLen; omega) (by omega) (by simp; omega) ?_
                 intro v' w3 hown3 hgr3 hat3
                 have hg3 : Gr wo w3 := Gr.grown (Gr.alloc hgo _) hgr3 (fun k hk => (hvl k hk).1)
                 obtain ⟨A3, c3, hv⟩ := own_form hown3
                 subst hv
                 clear hgr3 hat3 hv0 hvl hrx q0 q1 q2 q3 q4 p0 p1 p2 p3 p4 g0 g1 g2 g3 g4 o0 o1 o2 o3 o4 f3 sz)
              go_roundw
              case rel => exact ⟨j + 1, A3, c3, L ++ [s.vals[j]], by omega, hjT', by go_num, by rw [List.length_append]; rfl, hg3, by rw [vcells_append, List.length_append]; exact hown3, Lib.hid (by rw [Ht.out, HL.out])⟩
              case measure => simp [intOf]; omega
            · subst hA
              have hjp : j + 1 ≤ p := by
                have := (HLT.out _ hjl).2 (show s.start + (j : Int) * s.step < start + (k : Int) * step by omega)
                rw [HP.out] at this
                omega
              have e1 : Hid ((s.vals.take (j + 1)).drop p = (s.vals.take j).drop p) := Lib.hid (by rw [drop_take_none hjp, drop_take_none (by omega)])
              go_wp2
              go_roundw
              case rel => exact ⟨j + 1, A2, c2, L, by omega, hjT', by go_num, rfl, hgo, hownl, Lib.hid (by rw [e1.out, HL.out])⟩
              case measure => simp [intOf]; omega
          · have HJ : Hid (plS s (start + ((k : Int) + 1) * step) = j) := Lib.hid (by
              rcases Nat.lt_or_ge j (plS s (start + ((k : Int) + 1) * step)) with h | h
              · exact absurd ((HLT.out _ hjl).1 h) hto
              · omega)
            clear hA hb hx0 hx1
            have hj : plS s (start + ((k : Int) + 1) * step) = j := HJ.out
            have hrvl : Rv wr A2 L := Rd.own hownl
            have HJ2 := Lib.hid hj; clear hj
            go_wp2
            clear q0 q1 q2 q3 q4 p0 p1 p2 p3 p4 g0 g1 g2 g3 g4 o0 o1 o2 o3 o4 f3 sz
            have hS0 : FC s A c start step w.heap.size w1.heap.size A' k c' wr.drew := hFCi.gr hz (Gr.drew (Gr.refl _))
            have hown0 := hown1.drew
            have hrvl := hrvl.gr (Gr.drew (Gr.refl wr))
            have gV0 : Gr w wr.drew := Gr.drew hgi
            obtain ⟨V, hV⟩ : ∃ V, V = wr.drew := ⟨_, rfl⟩
            refine wp_region_Z 9 (FC s A c start step w.heap.size w1.heap.size A' k c') (by kernel_rfl) ?_
            rw [← hV] at hS0 hown0 gV0 hrvl ⊢
            clear hFCi hown1 hgi hV hownl
            refine wpAnyZ_take (i := 0) (v := ?v16) rfl (by kernel_rfl) (fun _ _ _ h => h) (by rfl) (fun W hS => ?h16) hS0 ?r16
            case h16 =>
              obtain ⟨q0, q1, q2, q3, q4, p0, p1, p2, p3, p4, g0, g1, g2, g3, g4, o0, o1, o2, o3, o4, f3, sz⟩ := hS
              go_simp
              rfl
            simp only [Act.put, List.setIfInBounds_toArray, List.set_cons_zero, List.set_cons_succ]
            refine wpAnyZ_take (i := 1) (v := ?v17) rfl (by kernel_rfl) (fun _ _ _ h => h) (by rfl) (fun W hS => ?h17) hS0 ?r17
            case h17 =>
              obtain ⟨q0, q1, q2, q3, q4, p0, p1, p2, p3, p4, g0, g1, g2, g3, g4, o0, o1, o2, o3, o4, f3, sz⟩ := hS
              go_simp
              rfl
            simp only [Act.put, List.setIfInBounds_toArray, List.set_cons_zero, List.set_cons_succ]
            refine wpAnyZ_take (i := 2) (v := ?v18) rfl (by kernel_rfl) (fun _ _ _ h => h) (by rfl) (fun W hS => ?h18) hS0 ?r18
            case h18 =>
              obtain ⟨q0, q1, q2, q3, q4, p0, p1, p2, p3, p4, g0, g1, g2, g3, g4, o0, o1, o2, o3, o4, f3, sz⟩ := hS
              go_simp
              rfl
            simp only [Act.put, List.setIfInBounds_toArray, List.set_cons_zero, List.set_cons_succ]
            refine wpAnyZ_take (i := 4) (v := ?v19) rfl (by kernel_rfl) (fun _ _ _ h => h) (by rfl) (fun W hS => ?h19) hS0 ?r19
            case h19 =>
              obtain ⟨q0, q1, q2, q3, q4, p0, p1, p2, p3, p4, g0, g1, g2, g3, g4, o0, o1, o2, o3, o4, f3, sz⟩ := hS
              go_simp
              rfl
            simp only [Act.put, List.setIfInBounds_toArray, List.set_cons_zero, List.set_cons_succ]
            refine wpAnyZ_ready (rs := [3]) (by kernel_rfl) (by simp) ?_
            refine AllReadyZ.cons rfl (by rfl) (fun K hK => ?_) ?_
            rotate_left
            exact AllReadyZ.nil
            go_simp
            refine (rscons_any s A c _ (hr.gr gV0)).mono ?_; rintro e w5 ⟨rfl, hg5⟩
            have gV5 := Gr.trans gV0 hg5
            have hS5 := hS0.gr hz hg5
            have hown5 := own_gr hown0 hg5
            have hrv5 := hrvl.gr hg5
            go_wp2_with fail
            refine hK.out _ _ (fun hnz => ?s20) (fun _ => ?r20)
            case s20 => exact hS5
            clear hK K
            try simp only [Act.put, List.setIfInBounds_toArray, List.set_cons_zero, List.set_cons_succ]
            refine wpAnyZ_ready (rs := [5]) (by kernel_rfl) (by simp) ?_
            refine AllReadyZ.cons rfl (by rfl) (fun K hK => ?_) ?_
            rotate_left
            exact AllReadyZ.nil
            go_simp
            refine (ragg_of_any (consS s) A2 c2 _ _ (by omega) hrv5).mono ?_; rintro e w7 ⟨rfl, hg7⟩
            have gV7 := Gr.trans gV5 hg7
            have hS7 := hS5.gr hz hg7
            have hown7 := own_gr hown5 hg7
            go_wp2_with fail
            refine hK.out _ _ (fun hnz => ?s21) (fun _ => ?r21)
            case s21 => exact hS7
            clear hK K
            try simp only [Act.put, List.setIfInBounds_toArray, List.set_cons_zero, List.set_cons_succ]
            refine wpAnyZ_ready (rs := [6]) (by kernel_rfl) (by simp) ?_
            refine AllReadyZ.cons rfl (by rfl) (fun K hK => ?_) ?_
            rotate_left
            exact AllReadyZ.nil
            obtain ⟨v, hv⟩ : ∃ v, aggV (consS s) L = v := ⟨_, rfl⟩
            rw [hv]
            have HV := Lib.hid hv; clear hv
            have hrx := Rv.new (W := w7) rfl 34 [v]
            have hS8 := hS7.gr hz (Gr.alloc (Gr.refl _) (.cells (vcells [v]).toArray 34))
            have hown8 := hown7.alloc (.cells (vcells [v]).toArray 34)
            have gV8 := Gr.alloc gV7 (.cells (vcells [v]).toArray 34)
            have z7 : w1.heap.size < w7.heap.size := by obtain ⟨_, _, _, _, _, _, _, _, _, _, _, _, _, _, _, _, _, _, _, _, _, sz⟩ := hS7; exact sz
            have hvl := hown7.lt
            go_simp
            refine hK.out _ _ (fun hnz => ?s22) (fun _ => ?r22)
            case s22 => exact hS8
            clear hK K
            try simp only [Act.put, List.setIfInBounds_toArray, List.set_cons_zero, List.set_cons_succ]
            refine wpAnyZ_ready (rs := [7]) (by kernel_rfl) (by simp) ?_
            refine AllReadyZ.cons rfl (by rfl) (fun K hK => ?_) ?_
            rotate_left
            exact AllReadyZ.nil
            refine wp_append_rd (.tmp 99) (.tmp 104) 22 rfl (w1.heap.size + 1) 34 i0 _ 2 16 Try.underlying22 hi0 hz0 hz1 hz2 rfl (by decide) _ k _ rfl hown8 ⟨w7.heap.size, 0, none⟩ 1 _ (vcells [v]) rfl hrx (by decide) (vcells_one _) (by unfold maxLen; omega) (by omega) (by simp; omega) ?_
            intro v' w9 hown9 hgr9 _
            obtain ⟨A9, c9, hv9⟩ := own_form hown9
            subst hv9
            have hg9 : Gr w w9 := Gr.grown gV8 hgr9 (fun j hj => by have := (hvl j hj).1; omega)
            have hB9 : Below (w1.heap.size + 1) (w7.alloc (.cells (vcells [v]).toArray 34)) w9 := Below.grown (Below.refl _ _) hgr9 (by simp; omega) (fun j hj => (hvl j hj).1)
            have hS9 := hS8.below hz hB9
            have hown10 := own_set hown9 (p := ⟨w1.heap.size, 3, none⟩) (Nat.lt_succ_self _) (.slice A9 (k + 1) c9)
            have hS10 := hS9.set hz A9 (k + 1) c9
            have hg10 := Gr.setCell hg9 (p := ⟨w1.heap.size, 3, none⟩) (by show w.heap.size ≤ w1.heap.size; omega) (.slice A9 (k + 1) c9)
            clear hB9 hgr9 hS8 hown8 gV8 hvl hrx
            refine hK.out _ _ (fun hnz => ?s23) (fun _ => ?r23)
            case s23 => exact hS9
            clear hK K
            try simp only [Act.put, List.setIfInBounds_toArray, List.set_cons_zero, List.set_cons_succ]
            refine wpAnyZ_ready (rs := [8]) (by kernel_rfl) (by simp) ?_
            refine AllReadyZ.cons rfl (by rfl) (fun K hK => ?_) ?_
            rotate_left
            exact AllReadyZ.nil
            go_simp
            refine hK.out _ _ (fun hnz => ?s24) (fun _ => ?r24)
            case s24 => exact hS9
            clear hK K
            try simp only [Act.put, List.setIfInBounds_toArray, List.set_cons_zero, List.set_cons_succ]
            refine wpAnyZ_ready (rs := [9]) (by kernel_rfl) (by simp) ?_
            refine AllReadyZ.cons rfl (by rfl) (fun K hK => ?_) ?_
            rotate_left
            exact AllReadyZ.nil
            obtain ⟨q0, q1, q2, q3, q4, p0, p1, p2, p3, p4, g0, g1, g2, g3, g4, o0, o1, o2, o3, o4, f3, sz⟩ := hS9
            go_simp
            refine hK.out _ _ (fun hnz => ?s25) (fun _ => ?r25)
            case s25 => exact absurd rfl hnz
            clear hK K
            try simp only [Act.put, List.setIfInBounds_toArray, List.set_cons_zero, List.set_cons_succ]
            refine wpAnyZ_done (by kernel_rfl) ?_ _
            clear q0 q1 q2 q3 q4 p0 p1 p2 p3 p4 g0 g1 g2 g3 g4 o0 o1 o2 o3 o4 f3 sz
            go_wp2
            go_roundw
            case rel => exact ⟨k + 1, j, A9, c9, by omega, Nat.le_of_eq (by rw [Int.natCast_succ]; exact HJ2.out.symm), rfl, by go_num, hg10, hS10, by rw [fitL_succ, show fitV s start step k = v from HW.out L v j HL.out HV.out HJ2.out]; simpa [vcells_append] using hown10⟩
            case measure => simp [intOf]; omega
        · have HJ : Hid (plS s (start + ((k : Int) + 1) * step) = j) := Lib.hid (by have := HPL.out (start + ((k : Int) + 1) * step); omega)
          have hj : plS s (start + ((k : Int) + 1) * step) = j := HJ.out
          have hrvl : Rv wr A2 L := Rd.own hownl
          have HJ2 := Lib.hid hj; clear hj
          go_wp2
          clear q0 q1 q2 q3 q4 p0 p1 p2 p3 p4 g0 g1 g2 g3 g4 o0 o1 o2 o3 o4 f3 sz
          have hS0 : FC s A c start step w.heap.size w1.heap.size A' k c' wr.drew := hFCi.gr hz (Gr.drew (Gr.refl _))
          have hown0 := hown1.drew
          have hrvl := hrvl.gr (Gr.drew (Gr.refl wr))
          have gV0 : Gr w wr.drew := Gr.drew hgi
          obtain ⟨V, hV⟩ : ∃ V, V = wr.drew := ⟨_, rfl⟩
          refine wp_region_Z 9 (FC s A c start step w.heap.size w1.heap.size A' k c') (by kernel_rfl) ?_
          rw [← hV] at hS0 hown0 gV0 hrvl ⊢
          clear hFCi hown1 hgi hV hownl
          refine wpAnyZ_take (i := 0) (v := ?v26) rfl (by kernel_rfl) (fun _ _ _ h => h) (by rfl) (fun W hS => ?h26) hS0 ?r26
          case h26 =>
            obtain ⟨q0, q1, q2, q3, q4, p0, p1, p2, p3, p4, g0, g1, g2, g3, g4, o0, o1, o2, o3, o4, f3, sz⟩ := hS
            go_simp
            rfl
          simp only [Act.put, List.setIfInBounds_toArray, List.set_cons_zero, List.set_cons_succ]
          refine wpAnyZ_take (i := 1) (v := ?v27) rfl (by kernel_rfl) (fun _ _ _ h => h) (by rfl) (fun W hS => ?h27) hS0 ?r27
          case h27 =>
            obtain ⟨q0, q1, q2, q3, q4, p0, p1, p2, p3, p4, g0, g1, g2, g3, g4, o0, o1, o2, o3, o4, f3, sz⟩ := hS
            go_simp
            rfl
          simp only [Act.put, List.setIfInBounds_toArray, List.set_cons_zero, List.set_cons_succ]
          refine wpAnyZ_take (i := 2) (v := ?v28) rfl (by kernel_rfl) (fun _ _ _ h => h) (by rfl) (fun W hS => ?h28) hS0 ?r28
          case h28 =>
            obtain ⟨q0, q1, q2, q3, q4, p0, p1, p2, p3, p4, g0, g1, g2, g3, g4, o0, o1, o2, o3, o4, f3, sz⟩ := hS
            go_simp
            rfl
          simp only [Act.put, List.setIfInBounds_toArray, List.set_cons_zero, List.set_cons_succ]
          refine wpAnyZ_take (i := 4) (v := ?v29) rfl (by kernel_rfl) (fun _ _ _ h => h) (by rfl) (fun W hS => ?h29) hS0 ?r29
          case h29 =>
            obtain ⟨q0, q1, q2, q3, q4, p0, p1, p2, p3, p4, g0, g1, g2, g3, g4, o0, o1, o2, o3, o4, f3, sz⟩ := hS
            go_simp
            rfl
          simp only [Act.put, List.setIfInBounds_toArray, List.set_cons_zero, List.set_cons_succ]
          refine wpAnyZ_ready (rs := [3]) (by kernel_rfl) (by simp) ?_
          refine AllReadyZ.cons rfl (by rfl) (fun K hK => ?_) ?_
          rotate_left
          exact AllReadyZ.nil
          go_simp
          refine (rscons_any s A c _ (hr.gr gV0)).mono ?_; rintro e w5 ⟨rfl, hg5⟩
          have gV5 := Gr.trans gV0 hg5
          have hS5 := hS0.gr hz hg5
          have hown5 := own_gr hown0 hg5
          have hrv5 := hrvl.gr hg5
          go_wp2_with fail
          refine hK.out _ _ (fun hnz => ?s30) (fun _ => ?r30)
          case s30 => exact hS5
          clear hK K
          try simp only [Act.put, List.setIfInBounds_toArray, List.set_cons_zero, List.set_cons_succ]
          refine wpAnyZ_ready (rs := [5]) (by kernel_rfl) (by simp) ?_
          refine AllReadyZ.cons rfl (by rfl) (fun K hK => ?_) ?_
          rotate_left
          exact AllReadyZ.nil
          go_simp
          refine (ragg_of_any (consS s) A2 c2 _ _ (by omega) hrv5).mono ?_; rintro e w7 ⟨rfl, hg7⟩
          have gV7 := Gr.trans gV5 hg7
          have hS7 := hS5.gr hz hg7
          have hown7 := own_gr hown5 hg7
          go_wp2_with fail
          refine hK.out _ _ (fun hnz => ?s31) (fun _ => ?r31)
          case s31 => exact hS7
          clear hK K
          try simp only [Act.put, List.setIfInBounds_toArray, List.set_cons_zero, List.set_cons_succ]
          refine wpAnyZ_ready (rs := [6]) (by kernel_rfl) (by simp) ?_
          refine AllReadyZ.cons rfl (by rfl) (fun K hK => ?_) ?_
          rotate_left
          exact AllReadyZ.nil
          obtain ⟨v, hv⟩ : ∃ v, aggV (consS s) L = v := ⟨_, rfl⟩
          rw [hv]
          have HV := Lib.hid hv; clear hv
          have hrx := Rv.new (W := w7) rfl 34 [v]
          have hS8 := hS7.gr hz (Gr.alloc (Gr.refl _) (.cells (vcells [v]).toArray 34))
          have hown8 := hown7.alloc (.cells (vcells [v]).toArray 34)
          have gV8 := Gr.alloc gV7 (.cells (vcells [v]).toArray 34)
          have z7 : w1.heap.size < w7.heap.size := by obtain ⟨_, _, _, _, _, _, _, _, _, _, _, _, _, _, _, _, _, _, _, _, _, sz⟩ := hS7; exact sz
          have hvl := hown7.lt
          go_simp
          refine hK.out _ _ (fun hnz => ?s32) (fun _ => ?r32)
          case s32 => exact hS8
          clear hK K
          try simp only [Act.put, List.setIfInBounds_toArray, List.set_cons_zero, List.set_cons_succ]
          refine wpAnyZ_ready (rs := [7]) (by kernel_rfl) (by simp) ?_
          refine AllReadyZ.cons rfl (by rfl) (fun K hK => ?_) ?_
          rotate_left
          exact AllReadyZ.nil
          refine wp_append_rd (.tmp 99) (.tmp 104) 22 rfl (w1.heap.size + 1) 34 i0 _ 2 16 Try.underlying22 hi0 hz0 hz1 hz2 rfl (by decide) _ k _ rfl hown8 ⟨w7.heap.size, 0, none⟩ 1 _ (vcells [v]) rfl hrx (by decide) (vcells_one _) (by unfold maxLen; omega) (by omega) (by simp; omega) ?_
          intro v' w9 hown9 hgr9 _
          obtain ⟨A9, c9, hv9⟩ := own_form hown9
          subst hv9
          have hg9 : Gr w w9 := Gr.grown gV8 hgr9 (fun j hj => by have := (hvl j hj).1; omega)
          have hB9 : Below (w1.heap.size + 1) (w7.alloc (.cells (vcells [v]).toArray 34)) w9 := Below.grown (Below.refl _ _) hgr9 (by simp; omega) (fun j hj => (hvl j hj).1)
          have hS9 := hS8.below hz hB9
          have hown10 := own_set hown9 (p := ⟨w1.heap.size, 3, none⟩) (Nat.lt_succ_self _) (.slice A9 (k + 1) c9)
          have hS10 := hS9.set hz A9 (k + 1) c9
          have hg10 := Gr.setCell hg9 (p := ⟨w1.heap.size, 3, none⟩) (by show w.heap.size ≤ w1.heap.size; omega) (.slice A9 (k + 1) c9)
          clear hB9 hgr9 hS8 hown8 gV8 hvl hrx
          refine hK.out _ _ (fun hnz => ?s33) (fun _ => ?r33)
          case s33 => exact hS9
          clear hK K
          try simp only [Act.put, List.setIfInBounds_toArray, List.set_cons_zero, List.set_cons_succ]
          refine wpAnyZ_ready (rs := [8]) (by kernel_rfl) (by simp) ?_
          refine AllReadyZ.cons rfl (by rfl) (fun K hK => ?_) ?_
          rotate_left
          exact AllReadyZ.nil
          go_simp
          refine hK.out _ _ (fun hnz => ?s34) (fun _ => ?r34)
          case s34 => exact hS9
          clear hK K
          try simp only [Act.put, List.setIfInBounds_toArray, List.set_cons_zero, List.set_cons_succ]
          refine wpAnyZ_ready (rs := [9]) (by kernel_rfl) (by simp) ?_
          refine AllReadyZ.cons rfl (by rfl) (fun K hK => ?_) ?_
          rotate_left
          exact AllReadyZ.nil
          obtain ⟨q0, q1, q2, q3, q4, p0, p1, p2, p3, p4, g0, g1, g2, g3, g4, o0, o1, o2, o3, o4, f3, sz⟩ := hS9
          go_simp
          refine hK.out _ _ (fun hnz => ?s35) (fun _ => ?r35)
          case s35 => exact absurd rfl hnz
          clear hK K
          try simp only [Act.put, List.setIfInBounds_toArray, List.set_cons_zero, List.set_cons_succ]
          refine wpAnyZ_done (by kernel_rfl) ?_ _
          clear q0 q1 q2 q3 q4 p0 p1 p2 p3 p4 g0 g1 g2 g3 g4 o0 o1 o2 o3 o4 f3 sz
          go_wp2
          go_roundw
          case rel => exact ⟨k + 1, j, A9, c9, by omega, Nat.le_of_eq (by rw [Int.natCast_succ]; exact HJ2.out.symm), rfl, by go_num, hg10, hS10, by rw [fitL_succ, show fitV s start step k = v from HW.out L v j HL.out HV.out HJ2.out]; simpa [vcells_append] using hown10⟩
          case measure => simp [intOf]; omega
    · have hkk : k = n := by omega
      subst hkk
      obtain ⟨q0, q1, q2, q3, q4, p0, p1, p2, p3, p4, g0, g1, g2, g3, g4, o0, o1, o2, o3, o4, f3, sz⟩ := hFC
      have hrv : Rv wo A' (fitL s start step k) := by have h := Rd.own hown; unfold Rv; rw [fitL_len]; exact h
      have hn1 : ∀ ad, A' = some ad → w.heap.size + 1 < ad.block := fun ad h => by have := own_new hown ad h; omega
      have y2 : w.heap.size + 1 < wo.heap.size := by omega
      have hfl := fitL_len s start step k
      go_wp2
      refine bodyPost_ret (v := .agg #[.string s.name, .int .i64 start, .int .i64 step, .slice A' k c', .int .i64 s.cons]) (by simp [results, Try.results14, go_sem, *]) rfl ⟨A', c', ?_, ?_, ?_, ?_⟩
      · show _ = Ending.returned (.agg #[.string s.name, .int .i64 start, .int .i64 step, .slice A' (fitL s start step k).length c', .int .i64 s.cons])
        rw [hfl]
      · exact (Rv.set (Rv.set (Rv.set (Rv.set (Rv.set hrv _ _ hn1) _ _ hn1) _ _ hn1) _ _ hn1) _ _ hn1)
      · exact (Gr.setCell (Gr.setCell (Gr.setCell (Gr.setCell (Gr.setCell hgr (Nat.le_succ _) _) (Nat.le_succ _) _) (Nat.le_succ _) _) (Nat.le_succ _) _) (Nat.le_succ _) _)
      · exact fun ad h => by have := hn1 ad h; omega
end Go.Proofs.Ytoikpkgogncdhaa
