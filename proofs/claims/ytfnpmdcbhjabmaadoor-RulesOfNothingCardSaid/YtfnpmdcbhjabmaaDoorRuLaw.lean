/- RulesRetentions of chapter 25. -/
import Derived.Test.YtfnpmdcbhjabmaaDoorRuRetR
import Derived.Test.YtfnpmdcbhjabmaaDoorRegQ
namespace Go.Proofs.YtfnpmdcbhjabmaaDoor
set_option linter.unusedVariables false
set_option linter.unusedSimpArgs false
open Go.RowKit

set_option maxRecDepth 100000 in
set_option maxHeartbeats 6400000 in
theorem archives_same (A B : Option Addr) (c d : Nat) (l : List (Nat × Nat)) (hl : (l.length : Int) ≤ 1000) (hn : ∀ a ∈ l, a.1 ≤ maxN ∧ a.2 ≤ maxN) (w : World) (ha : Ra w A l) (hb : Ra w B l) : Calls Tryd.prog 7 #[.slice A l.length c, .slice B l.length d] w fun e w' => e = .returned (.bool true) ∧ Gr w w' := by
  have HA := Lib.hid ha
  have HB := Lib.hid hb
  clear ha hb hn
  go_enter Tryd.func7, Tryd.ntmps7
  go_wp2
  go_loopw [5] (fun i wr => ∃ k : Nat, k ≤ l.length ∧ i = .int .i64 k ∧ Gr w wr) (fun i _ => l.length - (intOf i).toNat)
  case atStart => exact ⟨0, Nat.zero_le _, rfl, Gr.refl _⟩
  case round =>
    obtain ⟨k, hk, rfl, hgr⟩ := hrel
    have G := Lib.hid hgr
    by_cases hlt : k < l.length
    · have hki : (k : Int) < (l.length : Int) := by omega
      obtain ⟨b, rfl, hb, hc⟩ := (HA.out.gr hgr) (by omega)
      obtain ⟨b', rfl, hb', hc'⟩ := (HB.out.gr hgr) (by omega)
      obtain ⟨d0, d1⟩ := hc k hlt
      obtain ⟨e0, e1⟩ := hc' k hlt
      generalize l[k].1 = x1 at *
      generalize l[k].2 = x2 at *
      clear hc hc' hgr
      go_upto_region 6 with (fail)
      refine region_Q (by kernel_rfl) (by kernel_rfl) ?_
      refine q_val (v := ?qv1) (by rfl) (fun W hW => ?qh1) ?qr1
      case qh1 =>
        go_simp
        rfl
      simp only [Act.put, List.setIfInBounds_toArray, List.set_cons_zero, List.set_cons_succ]
      refine q_val (v := ?qv2) (by rfl) (fun W hW => ?qh2) ?qr2
      case qh2 =>
        go_simp
        rfl
      simp only [Act.put, List.setIfInBounds_toArray, List.set_cons_zero, List.set_cons_succ]
      refine q_val (v := ?qv3) (by rfl) (fun W hW => ?qh3) ?qr3
      case qh3 =>
        go_simp
        rfl
      simp only [Act.put, List.setIfInBounds_toArray, List.set_cons_zero, List.set_cons_succ]
      refine q_val (v := ?qv4) (by rfl) (fun W hW => ?qh4) ?qr4
      case qh4 =>
        have g := (Below.cell hW (p := ⟨b, k * 2, none⟩) hb).trans d0
        have g2 := (Below.cell hW (p := ⟨b, k * 2 + 1, none⟩) hb).trans d1
        go_simp
        rfl
      simp only [Act.put, List.setIfInBounds_toArray, List.set_cons_zero, List.set_cons_succ]
      refine q_val (v := ?qv5) (by rfl) (fun W hW => ?qh5) ?qr5
      case qh5 =>
        go_simp
        rfl
      simp only [Act.put, List.setIfInBounds_toArray, List.set_cons_zero, List.set_cons_succ]
      refine q_val (v := ?qv6) (by rfl) (fun W hW => ?qh6) ?qr6
      case qh6 =>
        go_simp
        rfl
      simp only [Act.put, List.setIfInBounds_toArray, List.set_cons_zero, List.set_cons_succ]
      refine q_val (v := ?qv7) (by rfl) (fun W hW => ?qh7) ?qr7
      case qh7 =>
        go_simp
        rfl
      simp only [Act.put, List.setIfInBounds_toArray, List.set_cons_zero, List.set_cons_succ]
      refine q_val (v := ?qv8) (by rfl) (fun W hW => ?qh8) ?qr8
      case qh8 =>
        have g := (Below.cell hW (p := ⟨b', k * 2, none⟩) hb').trans e0
        have g2 := (Below.cell hW (p := ⟨b', k * 2 + 1, none⟩) hb').trans e1
        go_simp
        rfl
      simp only [Act.put, List.setIfInBounds_toArray, List.set_cons_zero, List.set_cons_succ]
      refine q_val (v := ?qv9) (by rfl) (fun W hW => ?qh9) ?qr9
      case qh9 =>
        go_simp
        rfl
      simp only [Act.put, List.setIfInBounds_toArray, List.set_cons_zero, List.set_cons_succ]
      refine wpQuiet_nil ?_
      intro w8 hw8
      have G8 := Lib.hid hw8
      clear hw8 d0 d1 e0 e1
      go_wp2
      go_roundw
      case rel => exact ⟨k + 1, by omega, by go_num, G.out.trans G8.out⟩
      case measure => simp [intOf]; omega
    · have hkk : k = l.length := by omega
      subst hkk
      clear hgr
      go_wp2
      go_ret
      exact ⟨rfl, G.out⟩
theorem Ra.two (w : World) (x y : Nat × Nat) : Ra (w.alloc (.cells #[.int .i64 (x.1 : Nat), .int .i64 (x.2 : Nat), .int .i64 (y.1 : Nat), .int .i64 (y.2 : Nat)] 44)) (some ⟨w.heap.size, 0, none⟩) [x, y] := fun _ => by
  refine ⟨w.heap.size, rfl, by simp, fun k hk => ?_⟩
  match k, hk with
  | 0, _ => constructor <;> go_simp
  | 1, _ => constructor <;> go_simp
set_option maxRecDepth 100000 in
set_option maxHeartbeats 6400000 in
theorem known25_any (w : World) (hm : Ml w) : Calls Tryd.prog 8 #[] w fun e w' => e = .returned (.bool true) ∧ Gr w w' := by
  have HR := rules_Retentions ⟨#[49, 48, 115, 58, 49, 109, 105, 110, 44, 49, 109, 105, 110, 58, 49, 104]⟩ (by decide) w hm
  have hk : retS (⟨#[49, 48, 115, 58, 49, 109, 105, 110, 44, 49, 109, 105, 110, 58, 49, 104]⟩ : ByteArray).data.toList = some [(10, 6), (60, 60)] := known_25
  rw [hk] at HR
  have HRR := Lib.hid HR
  clear HR hk hm
  go_enter Tryd.func8, Tryd.ntmps8
  go_upto_region 2 with (go_at_call 5; refine HRR.out.mono ?_; rintro e w1 ⟨A, c, rfl, hr, g1⟩; simp only [Option.getD_some, Option.isSome_some, if_true, List.length_cons, List.length_nil, Nat.zero_add])
  have HA := Lib.hid (archives_same A (some ⟨w1.heap.size, 0, none⟩) c 2 [(10, 6), (60, 60)] (by decide) (by decide) (w1.alloc (.cells #[.int .i64 ((10 : Nat) : Int), .int .i64 ((6 : Nat) : Int), .int .i64 ((60 : Nat) : Int), .int .i64 ((60 : Nat) : Int)] 44)) (hr.gr (Gr.alloc (Gr.refl _) _)) (Ra.two w1 (10, 6) (60, 60)))
  have G1 := Lib.hid g1
  clear hr g1 HRR
  go_wp2_with (go_at_call 7; refine HA.out.mono ?_; rintro e w2 ⟨rfl, g2⟩; have G2 := Lib.hid g2; clear g2)
  go_ret
  exact ⟨rfl, (G1.out.trans (Gr.alloc (Gr.refl _) _)).trans G2.out⟩
theorem retS_le {l : List UInt8} {m : List (Nat × Nat)} (h : retS l = some m) : m.length ≤ 8 ∧ ∀ a ∈ m, a.1 ≤ maxN ∧ a.2 ≤ maxN := by
  unfold retS at h
  cases ha : archsS (partS 44 l) with
  | none => rw [ha] at h; cases h
  | some r =>
    rw [ha] at h
    simp only at h
    cases hM : mayS r
    · rw [hM] at h; cases h
    · rw [hM] at h
      simp only [cond_true, Option.some.injEq] at h
      subst h
      have h1 := hM
      rw [mayS_eq] at h1
      simp only [Bool.and_eq_true, Nat.ble_eq] at h1
      refine ⟨h1.1.1.1, fun a ha' => ?_⟩
      obtain ⟨j, hj, rfl⟩ := List.mem_iff_getElem.1 ha'
      have := ((steps_iff r).1 h1.1.1.2).2 j hj
      rw [stepOk_at hj, Bool.and_eq_true] at this
      have := oneOk_iff.1 this.1
      unfold maxN
      omega
set_option maxRecDepth 100000 in
set_option maxHeartbeats 6400000 in
theorem law_RulesRetentions (s : ByteArray) (w : World) (hm : Ml w) : Calls Tryd.prog 3 #[.string s] w fun e w' => e = .returned (.bool true) ∧ Gr w w' := by
  by_cases hs : (300 : Int) < (s.size : Int)
  · clear hm
    go_enter Tryd.func3, Tryd.ntmps3
    go_wp2
    go_ret
    exact ⟨rfl, Gr.refl _⟩
  · have HP := Lib.hid (fun w hm => rules_Retentions s (by omega) w hm)
    have HQ := Lib.hid (fun w => ref_Retentions s (by omega) w)
    have HK := Lib.hid known25_any
    have HM := Lib.hid hm
    clear hm
    cases hr : retS s.data.toList with
    | none =>
      rw [hr] at HP HQ
      clear hr
      go_enter Tryd.func3, Tryd.ntmps3
      go_upto_region 4 with (go_at_call 5; refine (HP.out _ HM.out).mono ?_; rintro e w1 ⟨A, c, rfl, hr, g1⟩; simp only [Option.getD_none, Option.isSome_none, Bool.false_eq_true, if_false, List.length_nil])
      go_upto_region 5 with (go_at_call 6; refine (HQ.out _).mono ?_; rintro e w2 ⟨B, d, rfl, hr2, g2⟩; simp only [Option.getD_none, Option.isSome_none, Bool.false_eq_true, if_false, List.length_nil])
      have HA := Lib.hid (archives_same A B c d [] (by decide) (by decide) w2 (Ra.nil _ _) (Ra.nil _ _))
      have HM2 := Lib.hid ((HM.out.gr g1).gr g2)
      have G2 := Lib.hid (g1.trans g2)
      clear hr hr2 g1 g2
      go_wp2_with (first | (go_at_call 7; refine HA.out.mono ?_; rintro e w3 ⟨rfl, g3⟩; have G3 := Lib.hid g3; clear g3) | (go_at_call 8; refine (HK.out _ (HM2.out.gr G3.out)).mono ?_; rintro e w4 ⟨rfl, g4⟩; have G4 := Lib.hid g4; clear g4))
      go_ret
      exact ⟨rfl, (G2.out.trans G3.out).trans G4.out⟩
    | some l =>
      obtain ⟨hl, hn⟩ := retS_le hr
      rw [hr] at HP HQ
      clear hr
      have HN := Lib.hid (And.intro hl hn)
      clear hl hn
      go_enter Tryd.func3, Tryd.ntmps3
      go_upto_region 4 with (go_at_call 5; refine (HP.out _ HM.out).mono ?_; rintro e w1 ⟨A, c, rfl, hr, g1⟩; simp only [Option.getD_some, Option.isSome_some, if_true] at hr ⊢)
      go_upto_region 5 with (go_at_call 6; refine (HQ.out _).mono ?_; rintro e w2 ⟨B, d, rfl, hr2, g2⟩; simp only [Option.getD_some, Option.isSome_some, if_true] at hr2 ⊢)
      have HA := Lib.hid (archives_same A B c d l (by have := HN.out.1; omega) HN.out.2 w2 (hr.gr g2) hr2)
      have HM2 := Lib.hid ((HM.out.gr g1).gr g2)
      have G2 := Lib.hid (g1.trans g2)
      clear hr hr2 g1 g2
      go_wp2_with (first | (go_at_call 7; refine HA.out.mono ?_; rintro e w3 ⟨rfl, g3⟩; have G3 := Lib.hid g3; clear g3) | (go_at_call 8; refine (HK.out _ (HM2.out.gr G3.out)).mono ?_; rintro e w4 ⟨rfl, g4⟩; have G4 := Lib.hid g4; clear g4))
      go_ret
      exact ⟨rfl, (G2.out.trans G3.out).trans G4.out⟩
end Go.Proofs.YtfnpmdcbhjabmaaDoor
