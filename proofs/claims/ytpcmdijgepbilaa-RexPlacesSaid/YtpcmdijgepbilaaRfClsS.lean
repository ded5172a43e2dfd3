/- set of the reference's reader. -/
import Derived.Test.YtpcmdijgepbilaaRfCls
namespace Go.Proofs.Ytpcmdijgepbilaa
set_option linter.unusedVariables false
set_option linter.unusedSimpArgs false
open Go.RowKit

/-- a set: one of a byte's meanings. -/
def bytesS (c : Nat) (r : List UInt8) : Option Bs × List UInt8 :=
  bif c == 46 then (some (notB (oneB 10)), r) else bif c == 91 then classS r else bif c == 92 then escS r else bif spcB c then (none, r) else (some (oneB c), r)
theorem CQ.start {w : World} {R n d e g : Nat} {s : ByteArray} {A : Option Addr} {code : List In} (h : RfW w R s n d e g A code) : CQ R w noB s n d e g A code ((w.alloc (Obj.cells (bsA noB) 72)).alloc (Obj.cells (bsA noB) 72)) := by
  have g : Gr w ((w.alloc (Obj.cells (bsA noB) 72)).alloc (Obj.cells (bsA noB) 72)) := Gr.alloc (Gr.alloc (Gr.refl _) _) _
  refine ⟨GX.of_gr g, (SetQ.new w noB).gr (Gr.alloc (Gr.refl _) _), ?_, h.gr g⟩
  have := SetQ.new (w.alloc (Obj.cells (bsA noB) 72)) noB
  simpa using this
/-- stroke in words of escS. -/
theorem stroke_none {w : World} {R n d e g : Nat} {s : ByteArray} {A : Option Addr} {code : List In} (h : RfW w R s n d e g A code) (hs : (s.size : Int) ≤ 4096) (hn : n < s.size) {t : List UInt8} (hx : escS (s.data.toList.drop (n + 1)) = (none, t)) :
    ∃ n' c f, n' ≤ s.size + 1 ∧ ∀ {w : World}, RfW w R s n d e g A code → Calls Try.prog 52 #[.pointer (some ⟨R, 0, none⟩)] w (RetX w R s n' d e g A code c f false) := by
  by_cases h1 : n + 1 < s.size
  · have hl1 : n + 1 < s.data.toList.length := by simpa using h1
    rw [List.drop_eq_getElem_cons hl1] at hx
    have e1 : s.data.toList[n + 1] = s[n + 1] := rfl
    rw [e1] at hx
    simp only [escS] at hx
    cases hnm : namedB (s[n + 1].toNat) with
    | some F => rw [hnm] at hx; simp at hx
    | none =>
      rw [hnm] at hx
      cases hal : alnB (s[n + 1].toNat)
      · rw [isWord_aln, hal] at hx; simp at hx
      · refine ⟨n + 2, s[n + 1].toNat, noB, by omega, fun {W} hW => ?_⟩
        have := stroke_byte hW hs h1 hnm
        rw [hal] at this
        exact this
  · exact ⟨n, 0, noB, by omega, fun hW => stroke_end hW hs (by omega)⟩
theorem stroke_some {w : World} {R n d e g : Nat} {s : ByteArray} {A : Option Addr} {code : List In} (h : RfW w R s n d e g A code) (hs : (s.size : Int) ≤ 4096) (hn : n < s.size) {f : Bs} {t : List UInt8} (hx : escS (s.data.toList.drop (n + 1)) = (some f, t)) :
    ∃ c m, c < 256 ∧ s.data.toList.drop (n + 2) = t ∧ n + 2 ≤ s.size ∧ (m = noB ∧ f = oneB c ∨ ∃ c', namedB c' = some f ∧ m = f) ∧ ∀ {w : World}, RfW w R s n d e g A code → Calls Try.prog 52 #[.pointer (some ⟨R, 0, none⟩)] w (RetX w R s (n + 2) d e g A code c m true) := by
  by_cases h1 : n + 1 < s.size
  · have hl1 : n + 1 < s.data.toList.length := by simpa using h1
    rw [List.drop_eq_getElem_cons hl1] at hx
    have e1 : s.data.toList[n + 1] = s[n + 1] := rfl
    rw [e1] at hx
    simp only [escS] at hx
    cases hnm : namedB (s[n + 1].toNat) with
    | some F =>
      rw [hnm] at hx
      simp only [Prod.mk.injEq, Option.some.injEq] at hx
      obtain ⟨rfl, rfl⟩ := hx
      exact ⟨0, _, by omega, rfl, by omega, .inr ⟨_, hnm, rfl⟩, fun hW => stroke_named hW hs h1 hnm⟩
    | none =>
      rw [hnm] at hx
      cases hal : alnB (s[n + 1].toNat)
      · rw [isWord_aln, hal] at hx
        simp only [cond_false, Prod.mk.injEq, Option.some.injEq] at hx
        obtain ⟨rfl, rfl⟩ := hx
        refine ⟨s[n + 1].toNat, noB, s[n + 1].toNat_lt, rfl, by omega, .inl ⟨rfl, rfl⟩, fun {W} hW => ?_⟩
        have := stroke_byte hW hs h1 hnm
        rw [hal] at this
        exact this
      · rw [isWord_aln, hal] at hx; simp at hx
  · rw [List.drop_eq_nil_of_le (by simp; omega)] at hx
    simp [escS] at hx

set_option maxRecDepth 100000 in
set_option maxHeartbeats 6400000 in
theorem rset_dot {w : World} {R n d e g : Nat} {s : ByteArray} {A : Option Addr} {code : List In} (h : RfW w R s n d e g A code) (hs : (s.size : Int) ≤ 4096) (hn : n < s.size) (h46 : s[n].toNat = 46) : Calls Try.prog 42 #[.pointer (some ⟨R, 0, none⟩)] w (RetK w R s d e g A code (some (notB (oneB 10)), s.data.toList.drop (n + 1))) := by
  have hRw := h.lt
  have hAw : ∀ k, blk A = some k → k < w.heap.size := fun k hk => (h.row k hk).2
  obtain ⟨hz0, hsz0⟩ := zero_of_info info_arr
  have C0 : CQ R w noB s n d e g A code ((w.alloc (Obj.cells (bsA noB) 72)).alloc (Obj.cells (bsA noB) 72)) := CQ.start h
  have hn3 : (n : Int) < (s.size : Int) := by omega
  have hn4 : (n : Int) < 4096 := by omega
  have hq46 : ((s[n].toNat : Int) == 46) = true := by simp; omega
  clear h
  go_enter Try.func42, Try.ntmps42
  go_upto_region 2 with (fail)
  generalize ((w.alloc (Obj.cells (bsA noB) 72)).alloc (Obj.cells (bsA noB) 72)) = w1 at C0 ⊢
  have hz : R < w1.heap.size := C0.r.lt
  obtain ⟨cc1, hc1⟩ := id C0.r
  obtain ⟨c0, c1⟩ := And.intro hc1.c0 hc1.c1
  clear hc1
  refine region_Q (by kernel_rfl) (by kernel_rfl) ?_
  refine q_val (v := ?qv56) (by rfl) (fun W hW => ?qh56) ?qr56
  case qh56 =>
    go_simp
    rfl
  simp only [Act.put, List.setIfInBounds_toArray, List.set_cons_zero, List.set_cons_succ]
  refine q_val (v := ?qv57) (by rfl) (fun W hW => ?qh57) ?qr57
  case qh57 =>
    go_simp
    rfl
  simp only [Act.put, List.setIfInBounds_toArray, List.set_cons_zero, List.set_cons_succ]
  refine q_val (v := ?qv58) (by rfl) (fun W hW => ?qh58) ?qr58
  case qh58 =>
    go_simp
    rfl
  simp only [Act.put, List.setIfInBounds_toArray, List.set_cons_zero, List.set_cons_succ]
  refine q_val (v := ?qv59) (by rfl) (fun W hW => ?qh59) ?qr59
  case qh59 =>
    have q0 := (Below.cell hW (p := ⟨R, 0, none⟩) hz).trans c0
    go_simp
    rfl
  simp only [Act.put, List.setIfInBounds_toArray, List.set_cons_zero, List.set_cons_succ]
  refine q_val (v := ?qv60) (by rfl) (fun W hW => ?qh60) ?qr60
  case qh60 =>
    go_simp
    rfl
  simp only [Act.put, List.setIfInBounds_toArray, List.set_cons_zero, List.set_cons_succ]
  refine q_val (v := ?qv61) (by rfl) (fun W hW => ?qh61) ?qr61
  case qh61 =>
    go_simp
    rfl
  simp only [Act.put, List.setIfInBounds_toArray, List.set_cons_zero, List.set_cons_succ]
  refine q_val (v := ?qv62) (by rfl) (fun W hW => ?qh62) ?qr62
  case qh62 =>
    go_simp
    rfl
  simp only [Act.put, List.setIfInBounds_toArray, List.set_cons_zero, List.set_cons_succ]
  refine q_val (v := ?qv63) (by rfl) (fun W hW => ?qh63) ?qr63
  case qh63 =>
    have q1 := (Below.cell hW (p := ⟨R, 1, none⟩) hz).trans c1
    go_simp
    rfl
  simp only [Act.put, List.setIfInBounds_toArray, List.set_cons_zero, List.set_cons_succ]
  refine q_val (v := ?qv64) (by rfl) (fun W hW => ?qh64) ?qr64
  case qh64 =>
    go_simp
    rfl
  simp only [Act.put, List.setIfInBounds_toArray, List.set_cons_zero, List.set_cons_succ]
  refine q_val (v := ?qv65) (by rfl) (fun W hW => ?qh65) ?qr65
  case qh65 =>
    go_simp
    rfl
  simp only [Act.put, List.setIfInBounds_toArray, List.set_cons_zero, List.set_cons_succ]
  refine wpQuiet_nil ?_
  intro w2 hw2
  have C2 := C0.gr hw2
  clear C0 c0 c1 hw2 hz
  obtain ⟨cc2, hc2⟩ := id C2.r
  obtain ⟨c1, f1⟩ := And.intro hc2.c1 hc2.f1
  clear hc2
  go_upto_region 5 with (fail)
  have C3 := C2.rd (GX.setCell (p := ⟨R, 1, none⟩) (GX.refl R w2) (.inl rfl) (.int .i64 ((n : Int) + 1))) (by have t := C2.r.setAt (n + 1); rwa [show ((n + 1 : Nat) : Int) = (n : Int) + 1 by omega] at t) hRw
  clear C2 c1 f1
  generalize w2.setCell ⟨R, 1, none⟩ (.int .i64 ((n : Int) + 1)) = w3 at C3 ⊢
  go_wp2_with (fail)
  go_loopw [6] (fun i wr => ∃ j : Nat, j ≤ 256 ∧ i = .int .i64 j ∧ CQ R w (fun q => bif decide (q < j) then !(q == 10) else false) s (n + 1) d e g A code wr) (fun i _ => 256 - (intOf i).toNat)
  case atStart => exact ⟨0, by omega, rfl, C3.x, C3.b, C3.a.eq fun i _ => by simp [noB], C3.r⟩
  case round =>
    clear C3
    obtain ⟨j, hj, rfl, C3⟩ := hrel
    by_cases hlt : j < 256
    · have h3 : (j : Int) < 256 := by omega
      have hcell := C3.a.cell hlt
      rw [show (bif decide (j < j) then !(j == 10) else false) = false by simp] at hcell
      have hf := C3.a.free j
      have HC3 := Lib.hid C3
      have hst : ∀ v, (!(j == 10)) = v → ∀ q, q < 256 → (bif q == j then v else (bif decide (q < j) then !(q == 10) else false)) = (bif decide (q < j + 1) then !(q == 10) else false) := fun v hv q _ => by
        by_cases hq : q = j
        · subst hq; simp [hv]
        · have e1 : (q == j) = false := by simpa using hq
          have e2 : decide (q < j + 1) = decide (q < j) := by rw [decide_eq_decide]; omega
          simp only [e1, cond_false, e2]
      have Hst := Lib.hid hst
      clear hst C3
      by_cases h10 : j = 10
      · have hjq : ((j : Int) == 10) = true := by simp; omega
        have Hv := Lib.hid (show (!(j == 10)) = ((j : Int) != 10) by rw [bne, hjq]; simp [h10])
        clear h10
        go_wp2_with (fail)
        go_roundw
        case rel => exact ⟨j + 1, by omega, by go_num, HC3.out.cell hRw j _ hAw (Hst.out _ Hv.out)⟩
        case measure => simp [intOf]; omega
      · have hjq : ((j : Int) == 10) = false := beq_eq_false_iff_ne.2 (by omega)
        have Hv := Lib.hid (show (!(j == 10)) = ((j : Int) != 10) by rw [bne, hjq]; simp [h10])
        clear h10
        go_wp2_with (fail)
        go_roundw
        case rel => exact ⟨j + 1, by omega, by go_num, HC3.out.cell hRw j _ hAw (Hst.out _ Hv.out)⟩
        case measure => simp [intOf]; omega
    · have hj' : j = 256 := by omega
      subst hj'
      have ca' : SetQ wr (w.heap.size + 1) (notB (oneB 10)) := C3.a.eq fun i hi => by simp [hi, notB, oneB]
      go_wp2_with (first
        | (refine wpList_load_row rfl 72 (.tmp 4) rfl ((w.heap.size + 1)) rfl _ (bsA (notB (oneB 10))) (0, 0) _ ca' und_arr rfl (size_bsQ _) ?_)
        | (refine wpList_store_row rfl 72 (.tmp 2) (.tmp 37) rfl (w.heap.size) (bsA (notB (oneB 10))) rfl rfl _ _ C3.b (size_bsQ _) (by simp only [bsA_size]) (bsA_one _) ?_))
      refine bodyPost_ret (v := .tuple #[.agg (bsA (notB (oneB 10))), .bool true]) (res_arr2 _ 2 3 (by kernel_rfl) _ _ w.heap.size _ _ rfl rfl (SetQ.row C3.b)) rfl ?_
      exact ⟨_, n + 1, rfl, C3.r.row' (by omega) (fun e => by have := hAw _ e; omega), C3.x.setRow (.inr (Nat.le_refl _)) _, by omega, fun F hF => by injection hF with hF; exact ⟨hF, rfl, by omega⟩⟩

set_option maxRecDepth 100000 in
set_option maxHeartbeats 6400000 in
theorem rset_class {w : World} {R n d e g : Nat} {s : ByteArray} {A : Option Addr} {code : List In} (h : RfW w R s n d e g A code) (hs : (s.size : Int) ≤ 4096) (hn : n < s.size) (h91 : s[n].toNat = 91) : Calls Try.prog 42 #[.pointer (some ⟨R, 0, none⟩)] w (RetK w R s d e g A code (classS (s.data.toList.drop (n + 1)))) := by
  obtain ⟨T, hT⟩ : ∃ T, classS (s.data.toList.drop (n + 1)) = T := ⟨_, rfl⟩
  have HCL := Lib.hid (fun (W : World) (hW : RfW W R s n d e g A code) => rclass_any hW hs hn)
  rw [hT] at HCL ⊢
  clear hT
  have hRw := h.lt
  have hAw : ∀ k, blk A = some k → k < w.heap.size := fun k hk => (h.row k hk).2
  obtain ⟨hz0, hsz0⟩ := zero_of_info info_arr
  have C0 : CQ R w noB s n d e g A code ((w.alloc (Obj.cells (bsA noB) 72)).alloc (Obj.cells (bsA noB) 72)) := CQ.start h
  have hn3 : (n : Int) < (s.size : Int) := by omega
  have hn4 : (n : Int) < 4096 := by omega
  have hq46 : ((s[n].toNat : Int) == 46) = false := by simp; omega
  have hq91 : ((s[n].toNat : Int) == 91) = true := by simp; omega
  clear h
  go_enter Try.func42, Try.ntmps42
  go_upto_region 2 with (fail)
  generalize ((w.alloc (Obj.cells (bsA noB) 72)).alloc (Obj.cells (bsA noB) 72)) = w1 at C0 ⊢
  have hz : R < w1.heap.size := C0.r.lt
  obtain ⟨cc1, hc1⟩ := id C0.r
  obtain ⟨c0, c1⟩ := And.intro hc1.c0 hc1.c1
  clear hc1
  refine region_Q (by kernel_rfl) (by kernel_rfl) ?_
  refine q_val (v := ?qv56) (by rfl) (fun W hW => ?qh56) ?qr56
  case qh56 =>
    go_simp
    rfl
  simp only [Act.put, List.setIfInBounds_toArray, List.set_cons_zero, List.set_cons_succ]
  refine q_val (v := ?qv57) (by rfl) (fun W hW => ?qh57) ?qr57
  case qh57 =>
    go_simp
    rfl
  simp only [Act.put, List.setIfInBounds_toArray, List.set_cons_zero, List.set_cons_succ]
  refine q_val (v := ?qv58) (by rfl) (fun W hW => ?qh58) ?qr58
  case qh58 =>
    go_simp
    rfl
  simp only [Act.put, List.setIfInBounds_toArray, List.set_cons_zero, List.set_cons_succ]
  refine q_val (v := ?qv59) (by rfl) (fun W hW => ?qh59) ?qr59
  case qh59 =>
    have q0 := (Below.cell hW (p := ⟨R, 0, none⟩) hz).trans c0
    go_simp
    rfl
  simp only [Act.put, List.setIfInBounds_toArray, List.set_cons_zero, List.set_cons_succ]
  refine q_val (v := ?qv60) (by rfl) (fun W hW => ?qh60) ?qr60
  case qh60 =>
    go_simp
    rfl
  simp only [Act.put, List.setIfInBounds_toArray, List.set_cons_zero, List.set_cons_succ]
  refine q_val (v := ?qv61) (by rfl) (fun W hW => ?qh61) ?qr61
  case qh61 =>
    go_simp
    rfl
  simp only [Act.put, List.setIfInBounds_toArray, List.set_cons_zero, List.set_cons_succ]
  refine q_val (v := ?qv62) (by rfl) (fun W hW => ?qh62) ?qr62
  case qh62 =>
    go_simp
    rfl
  simp only [Act.put, List.setIfInBounds_toArray, List.set_cons_zero, List.set_cons_succ]
  refine q_val (v := ?qv63) (by rfl) (fun W hW => ?qh63) ?qr63
  case qh63 =>
    have q1 := (Below.cell hW (p := ⟨R, 1, none⟩) hz).trans c1
    go_simp
    rfl
  simp only [Act.put, List.setIfInBounds_toArray, List.set_cons_zero, List.set_cons_succ]
  refine q_val (v := ?qv64) (by rfl) (fun W hW => ?qh64) ?qr64
  case qh64 =>
    go_simp
    rfl
  simp only [Act.put, List.setIfInBounds_toArray, List.set_cons_zero, List.set_cons_succ]
  refine q_val (v := ?qv65) (by rfl) (fun W hW => ?qh65) ?qr65
  case qh65 =>
    go_simp
    rfl
  simp only [Act.put, List.setIfInBounds_toArray, List.set_cons_zero, List.set_cons_succ]
  refine wpQuiet_nil ?_
  intro w2 hw2
  have C2 := C0.gr hw2
  clear C0 c0 c1 hw2 hz
  go_wp2_with (first
    | (go_at_call 51; refine (HCL.out _ C2.r).mono ?_; rintro x w3 ⟨f, n', rfl, h3, x3, hn', hF⟩; have C3 := C2.rd x3 h3 hRw; have HFF := Lib.hid hF; clear hF)
    | (refine wpList_store_row rfl 72 (.tmp 2) (.tmp 43) rfl (w.heap.size) (bsA (f)) rfl rfl _ _ C3.b (size_bsQ _) (by simp only [bsA_size]) (bsA_one _) ?_))
  refine bodyPost_ret (v := .tuple #[.agg (bsA f), .bool T.1.isSome]) (res_arr2 _ 2 3 (by kernel_rfl) _ _ w.heap.size _ _ rfl rfl (SetQ.row C3.b)) rfl ?_
  exact ⟨f, n', rfl, C3.r.row' (by omega) (fun e => by have := hAw _ e; omega), C3.x.setRow (.inr (Nat.le_refl _)) _, hn', HFF.out⟩


set_option maxRecDepth 100000 in
set_option maxHeartbeats 6400000 in
theorem rset_stroke0 {w : World} {R n d e g : Nat} {s : ByteArray} {A : Option Addr} {code : List In} (h : RfW w R s n d e g A code) (hs : (s.size : Int) ≤ 4096) (hn : n < s.size) (h92 : s[n].toNat = 92) {n' c : Nat} {f : Bs} (hn' : n' ≤ s.size + 1) {t : List UInt8} (HS0 : ∀ {w : World}, RfW w R s n d e g A code → Calls Try.prog 52 #[.pointer (some ⟨R, 0, none⟩)] w (RetX w R s n' d e g A code c f false)) : Calls Try.prog 42 #[.pointer (some ⟨R, 0, none⟩)] w (RetK w R s d e g A code (none, t)) := by
  have HS : Hid (∀ W, RfW W R s n d e g A code → Calls Try.prog 52 #[.pointer (some ⟨R, 0, none⟩)] W (RetX W R s n' d e g A code c f false)) := Lib.hid fun W hW => HS0 hW
  clear HS0
  have hRw := h.lt
  have hAw : ∀ k, blk A = some k → k < w.heap.size := fun k hk => (h.row k hk).2
  obtain ⟨hz0, hsz0⟩ := zero_of_info info_arr
  have C0 : CQ R w noB s n d e g A code ((w.alloc (Obj.cells (bsA noB) 72)).alloc (Obj.cells (bsA noB) 72)) := CQ.start h
  have hn3 : (n : Int) < (s.size : Int) := by omega
  have hn4 : (n : Int) < 4096 := by omega
  have hq46 : ((s[n].toNat : Int) == 46) = false := by simp; omega
  have hq91 : ((s[n].toNat : Int) == 91) = false := by simp; omega
  have hq92 : ((s[n].toNat : Int) == 92) = true := by simp; omega
  clear h
  go_enter Try.func42, Try.ntmps42
  go_upto_region 2 with (fail)
  generalize ((w.alloc (Obj.cells (bsA noB) 72)).alloc (Obj.cells (bsA noB) 72)) = w1 at C0 ⊢
  have hz : R < w1.heap.size := C0.r.lt
  obtain ⟨cc1, hc1⟩ := id C0.r
  obtain ⟨c0, c1⟩ := And.intro hc1.c0 hc1.c1
  clear hc1
  refine region_Q (by kernel_rfl) (by kernel_rfl) ?_
  refine q_val (v := ?qv56) (by rfl) (fun W hW => ?qh56) ?qr56
  case qh56 =>
    go_simp
    rfl
  simp only [Act.put, List.setIfInBounds_toArray, List.set_cons_zero, List.set_cons_succ]
  refine q_val (v := ?qv57) (by rfl) (fun W hW => ?qh57) ?qr57
  case qh57 =>
    go_simp
    rfl
  simp only [Act.put, List.setIfInBounds_toArray, List.set_cons_zero, List.set_cons_succ]
  refine q_val (v := ?qv58) (by rfl) (fun W hW => ?qh58) ?qr58
  case qh58 =>
    go_simp
    rfl
  simp only [Act.put, List.setIfInBounds_toArray, List.set_cons_zero, List.set_cons_succ]
  refine q_val (v := ?qv59) (by rfl) (fun W hW => ?qh59) ?qr59
  case qh59 =>
    have q0 := (Below.cell hW (p := ⟨R, 0, none⟩) hz).trans c0
    go_simp
    rfl
  simp only [Act.put, List.setIfInBounds_toArray, List.set_cons_zero, List.set_cons_succ]
  refine q_val (v := ?qv60) (by rfl) (fun W hW => ?qh60) ?qr60
  case qh60 =>
    go_simp
    rfl
  simp only [Act.put, List.setIfInBounds_toArray, List.set_cons_zero, List.set_cons_succ]
  refine q_val (v := ?qv61) (by rfl) (fun W hW => ?qh61) ?qr61
  case qh61 =>
    go_simp
    rfl
  simp only [Act.put, List.setIfInBounds_toArray, List.set_cons_zero, List.set_cons_succ]
  refine q_val (v := ?qv62) (by rfl) (fun W hW => ?qh62) ?qr62
  case qh62 =>
    go_simp
    rfl
  simp only [Act.put, List.setIfInBounds_toArray, List.set_cons_zero, List.set_cons_succ]
  refine q_val (v := ?qv63) (by rfl) (fun W hW => ?qh63) ?qr63
  case qh63 =>
    have q1 := (Below.cell hW (p := ⟨R, 1, none⟩) hz).trans c1
    go_simp
    rfl
  simp only [Act.put, List.setIfInBounds_toArray, List.set_cons_zero, List.set_cons_succ]
  refine q_val (v := ?qv64) (by rfl) (fun W hW => ?qh64) ?qr64
  case qh64 =>
    go_simp
    rfl
  simp only [Act.put, List.setIfInBounds_toArray, List.set_cons_zero, List.set_cons_succ]
  refine q_val (v := ?qv65) (by rfl) (fun W hW => ?qh65) ?qr65
  case qh65 =>
    go_simp
    rfl
  simp only [Act.put, List.setIfInBounds_toArray, List.set_cons_zero, List.set_cons_succ]
  refine wpQuiet_nil ?_
  intro w2 hw2
  have C2 := C0.gr hw2
  clear C0 c0 c1 hw2 hz
  go_upto_region 15 with (first
    | (go_at_call 52; refine (HS.out _ C2.r).mono ?_; rintro x w5 ⟨rfl, h5, x5⟩; have C5 := C2.rd x5 h5 hRw; have zg : w.heap.size + 1 < w5.heap.size := C5.a.lt; have hzg : w5.heap.size ≠ R := (by omega))
    | (refine wpList_store_row rfl 72 (.tmp 8) (.tmp 52) rfl w5.heap.size (bsA f) rfl rfl _ _ (SetQ.new w5 noB) (size_bsQ _) (by simp only [bsA_size]) (bsA_one _) ?_; have C6 := C5.gr (Gr.setRow (Gr.alloc (Gr.refl w5) (.cells (bsA noB) 72)) (g := w5.heap.size) (Nat.le_refl _) (bsA f)); have hX6 : SetQ ((w5.alloc (.cells (bsA noB) 72)).setRow w5.heap.size (bsA f)) w5.heap.size f := SetQ.row (SetQ.new w5 noB)))
  clear C5 x5 h5 C2
  generalize (w5.alloc (.cells (bsA noB) 72)).setRow w5.heap.size (bsA f) = w6 at C6 hX6 ⊢
  obtain ⟨gx, hgx⟩ : ∃ gx, gx = w5.heap.size := ⟨_, rfl⟩
  rw [← hgx] at zg hzg hX6 ⊢
  clear hgx
  go_wp2_with (first
    | (refine wpList_load_row rfl 72 (.tmp 4) rfl ((w.heap.size + 1)) rfl _ (bsA (noB)) (0, 0) _ C6.a und_arr rfl (size_bsQ _) ?_)
    | (refine wpList_store_row rfl 72 (.tmp 2) (.tmp 56) rfl (w.heap.size) (bsA (noB)) rfl rfl _ _ C6.b (size_bsQ _) (by simp only [bsA_size]) (bsA_one _) ?_))
  refine bodyPost_ret (v := .tuple #[.agg (bsA (noB)), .bool false]) (res_arr2 _ 2 3 (by kernel_rfl) _ _ w.heap.size _ _ rfl rfl (SetQ.row C6.b)) rfl ?_
  exact ⟨_, n', rfl, C6.r.row' (by omega) (fun e => by have := hAw _ e; omega), C6.x.setRow (.inr (Nat.le_refl _)) _, hn', fun F hF => by cases hF⟩

set_option maxRecDepth 100000 in
set_option maxHeartbeats 6400000 in
theorem rset_stroke1 {w : World} {R n d e g : Nat} {s : ByteArray} {A : Option Addr} {code : List In} (h : RfW w R s n d e g A code) (hs : (s.size : Int) ≤ 4096) (hn : n < s.size) (h92 : s[n].toNat = 92) {c c' : Nat} {f : Bs} (hn2 : n + 2 ≤ s.size) {t : List UInt8} (ht : s.data.toList.drop (n + 2) = t) (hnm : namedB c' = some f) (HS0 : ∀ {w : World}, RfW w R s n d e g A code → Calls Try.prog 52 #[.pointer (some ⟨R, 0, none⟩)] w (RetX w R s (n + 2) d e g A code c f true)) : Calls Try.prog 42 #[.pointer (some ⟨R, 0, none⟩)] w (RetK w R s d e g A code (some f, t)) := by
  have HS : Hid (∀ W, RfW W R s n d e g A code → Calls Try.prog 52 #[.pointer (some ⟨R, 0, none⟩)] W (RetX W R s (n + 2) d e g A code c f true)) := Lib.hid fun W hW => HS0 hW
  have hqn := fun W => eqn_some hnm W
  have Ht := Lib.hid ht
  clear HS0 hnm ht
  have hRw := h.lt
  have hAw : ∀ k, blk A = some k → k < w.heap.size := fun k hk => (h.row k hk).2
  obtain ⟨hz0, hsz0⟩ := zero_of_info info_arr
  have C0 : CQ R w noB s n d e g A code ((w.alloc (Obj.cells (bsA noB) 72)).alloc (Obj.cells (bsA noB) 72)) := CQ.start h
  have hn3 : (n : Int) < (s.size : Int) := by omega
  have hn4 : (n : Int) < 4096 := by omega
  have hq46 : ((s[n].toNat : Int) == 46) = false := by simp; omega
  have hq91 : ((s[n].toNat : Int) == 91) = false := by simp; omega
  have hq92 : ((s[n].toNat : Int) == 92) = true := by simp; omega
  clear h
  go_enter Try.func42, Try.ntmps42
  go_upto_region 2 with (fail)
  generalize ((w.alloc (Obj.cells (bsA noB) 72)).alloc (Obj.cells (bsA noB) 72)) = w1 at C0 ⊢
  have hz : R < w1.heap.size := C0.r.lt
  obtain ⟨cc1, hc1⟩ := id C0.r
  obtain ⟨c0, c1⟩ := And.intro hc1.c0 hc1.c1
  clear hc1
  refine region_Q (by kernel_rfl) (by kernel_rfl) ?_
  refine q_val (v := ?qv56) (by rfl) (fun W hW => ?qh56) ?qr56
  case qh56 =>
    go_simp
    rfl
  simp only [Act.put, List.setIfInBounds_toArray, List.set_cons_zero, List.set_cons_succ]
  refine q_val (v := ?qv57) (by rfl) (fun W hW => ?qh57) ?qr57
  case qh57 =>
    go_simp
    rfl
  simp only [Act.put, List.setIfInBounds_toArray, List.set_cons_zero, List.set_cons_succ]
  refine q_val (v := ?qv58) (by rfl) (fun W hW => ?qh58) ?qr58
  case qh58 =>
    go_simp
    rfl
  simp only [Act.put, List.setIfInBounds_toArray, List.set_cons_zero, List.set_cons_succ]
  refine q_val (v := ?qv59) (by rfl) (fun W hW => ?qh59) ?qr59
  case qh59 =>
    have q0 := (Below.cell hW (p := ⟨R, 0, none⟩) hz).trans c0
    go_simp
    rfl
  simp only [Act.put, List.setIfInBounds_toArray, List.set_cons_zero, List.set_cons_succ]
  refine q_val (v := ?qv60) (by rfl) (fun W hW => ?qh60) ?qr60
  case qh60 =>
    go_simp
    rfl
  simp only [Act.put, List.setIfInBounds_toArray, List.set_cons_zero, List.set_cons_succ]
  refine q_val (v := ?qv61) (by rfl) (fun W hW => ?qh61) ?qr61
  case qh61 =>
    go_simp
    rfl
  simp only [Act.put, List.setIfInBounds_toArray, List.set_cons_zero, List.set_cons_succ]
  refine q_val (v := ?qv62) (by rfl) (fun W hW => ?qh62) ?qr62
  case qh62 =>
    go_simp
    rfl
  simp only [Act.put, List.setIfInBounds_toArray, List.set_cons_zero, List.set_cons_succ]
  refine q_val (v := ?qv63) (by rfl) (fun W hW => ?qh63) ?qr63
  case qh63 =>
    have q1 := (Below.cell hW (p := ⟨R, 1, none⟩) hz).trans c1
    go_simp
    rfl
  simp only [Act.put, List.setIfInBounds_toArray, List.set_cons_zero, List.set_cons_succ]
  refine q_val (v := ?qv64) (by rfl) (fun W hW => ?qh64) ?qr64
  case qh64 =>
    go_simp
    rfl
  simp only [Act.put, List.setIfInBounds_toArray, List.set_cons_zero, List.set_cons_succ]
  refine q_val (v := ?qv65) (by rfl) (fun W hW => ?qh65) ?qr65
  case qh65 =>
    go_simp
    rfl
  simp only [Act.put, List.setIfInBounds_toArray, List.set_cons_zero, List.set_cons_succ]
  refine wpQuiet_nil ?_
  intro w2 hw2
  have C2 := C0.gr hw2
  clear C0 c0 c1 hw2 hz
  go_upto_region 16 with (first
    | (go_at_call 52; refine (HS.out _ C2.r).mono ?_; rintro x w5 ⟨rfl, h5, x5⟩; have C5 := C2.rd x5 h5 hRw; have zg : w.heap.size + 1 < w5.heap.size := C5.a.lt; have hzg : w5.heap.size ≠ R := (by omega))
    | (refine wpList_store_row rfl 72 (.tmp 8) (.tmp 52) rfl w5.heap.size (bsA f) rfl rfl _ _ (SetQ.new w5 noB) (size_bsQ _) (by simp only [bsA_size]) (bsA_one _) ?_; have C6 := C5.gr (Gr.setRow (Gr.alloc (Gr.refl w5) (.cells (bsA noB) 72)) (g := w5.heap.size) (Nat.le_refl _) (bsA f)); have hX6 : SetQ ((w5.alloc (.cells (bsA noB) 72)).setRow w5.heap.size (bsA f)) w5.heap.size f := SetQ.row (SetQ.new w5 noB)))
  clear C5 x5 h5 C2
  generalize (w5.alloc (.cells (bsA noB) 72)).setRow w5.heap.size (bsA f) = w6 at C6 hX6 ⊢
  obtain ⟨gx, hgx⟩ : ∃ gx, gx = w5.heap.size := ⟨_, rfl⟩
  rw [← hgx] at zg hzg hX6 ⊢
  clear hgx
  go_wp2_with (first
    | (refine wpList_load_row rfl 72 (.tmp 8) rfl (gx) rfl _ (bsA (f)) (0, 0) _ hX6 und_arr rfl (size_bsQ _) ?_)
    | (refine wpList_store_row rfl 72 (.tmp 2) (.tmp 60) rfl (w.heap.size) (bsA (f)) rfl rfl _ _ C6.b (size_bsQ _) (by simp only [bsA_size]) (bsA_one _) ?_))
  refine bodyPost_ret (v := .tuple #[.agg (bsA (f)), .bool true]) (res_arr2 _ 2 3 (by kernel_rfl) _ _ w.heap.size _ _ rfl rfl (SetQ.row C6.b)) rfl ?_
  exact ⟨_, n + 2, rfl, C6.r.row' (by omega) (fun e => by have := hAw _ e; omega), C6.x.setRow (.inr (Nat.le_refl _)) _, by omega, fun F hF => by injection hF with hF; exact ⟨hF, Ht.out, by omega⟩⟩

set_option maxRecDepth 100000 in
set_option maxHeartbeats 6400000 in
theorem rset_stroke2 {w : World} {R n d e g : Nat} {s : ByteArray} {A : Option Addr} {code : List In} (h : RfW w R s n d e g A code) (hs : (s.size : Int) ≤ 4096) (hn : n < s.size) (h92 : s[n].toNat = 92) {c : Nat} (hc : c < 256) (hn2 : n + 2 ≤ s.size) {t : List UInt8} (ht : s.data.toList.drop (n + 2) = t) (HS0 : ∀ {w : World}, RfW w R s n d e g A code → Calls Try.prog 52 #[.pointer (some ⟨R, 0, none⟩)] w (RetX w R s (n + 2) d e g A code c noB true)) : Calls Try.prog 42 #[.pointer (some ⟨R, 0, none⟩)] w (RetK w R s d e g A code (some (oneB c), t)) := by
  have HS : Hid (∀ W, RfW W R s n d e g A code → Calls Try.prog 52 #[.pointer (some ⟨R, 0, none⟩)] W (RetX W R s (n + 2) d e g A code c noB true)) := Lib.hid fun W hW => HS0 hW
  have hqn := fun W => eqn_none W
  have hc3 : (c : Int) < 256 := by omega
  have Ht := Lib.hid ht
  clear HS0 ht
  have hRw := h.lt
  have hAw : ∀ k, blk A = some k → k < w.heap.size := fun k hk => (h.row k hk).2
  obtain ⟨hz0, hsz0⟩ := zero_of_info info_arr
  have C0 : CQ R w noB s n d e g A code ((w.alloc (Obj.cells (bsA noB) 72)).alloc (Obj.cells (bsA noB) 72)) := CQ.start h
  have hn3 : (n : Int) < (s.size : Int) := by omega
  have hn4 : (n : Int) < 4096 := by omega
  have hq46 : ((s[n].toNat : Int) == 46) = false := by simp; omega
  have hq91 : ((s[n].toNat : Int) == 91) = false := by simp; omega
  have hq92 : ((s[n].toNat : Int) == 92) = true := by simp; omega
  clear h
  go_enter Try.func42, Try.ntmps42
  go_upto_region 2 with (fail)
  generalize ((w.alloc (Obj.cells (bsA noB) 72)).alloc (Obj.cells (bsA noB) 72)) = w1 at C0 ⊢
  have hz : R < w1.heap.size := C0.r.lt
  obtain ⟨cc1, hc1⟩ := id C0.r
  obtain ⟨c0, c1⟩ := And.intro hc1.c0 hc1.c1
  clear hc1
  refine region_Q (by kernel_rfl) (by kernel_rfl) ?_
  refine q_val (v := ?qv56) (by rfl) (fun W hW => ?qh56) ?qr56
  case qh56 =>
    go_simp
    rfl
  simp only [Act.put, List.setIfInBounds_toArray, List.set_cons_zero, List.set_cons_succ]
  refine q_val (v := ?qv57) (by rfl) (fun W hW => ?qh57) ?qr57
  case qh57 =>
    go_simp
    rfl
  simp only [Act.put, List.setIfInBounds_toArray, List.set_cons_zero, List.set_cons_succ]
  refine q_val (v := ?qv58) (by rfl) (fun W hW => ?qh58) ?qr58
  case qh58 =>
    go_simp
    rfl
  simp only [Act.put, List.setIfInBounds_toArray, List.set_cons_zero, List.set_cons_succ]
  refine q_val (v := ?qv59) (by rfl) (fun W hW => ?qh59) ?qr59
  case qh59 =>
    have q0 := (Below.cell hW (p := ⟨R, 0, none⟩) hz).trans c0
    go_simp
    rfl
  simp only [Act.put, List.setIfInBounds_toArray, List.set_cons_zero, List.set_cons_succ]
  refine q_val (v := ?qv60) (by rfl) (fun W hW => ?qh60) ?qr60
  case qh60 =>
    go_simp
    rfl
  simp only [Act.put, List.setIfInBounds_toArray, List.set_cons_zero, List.set_cons_succ]
  refine q_val (v := ?qv61) (by rfl) (fun W hW => ?qh61) ?qr61
  case qh61 =>
    go_simp
    rfl
  simp only [Act.put, List.setIfInBounds_toArray, List.set_cons_zero, List.set_cons_succ]
  refine q_val (v := ?qv62) (by rfl) (fun W hW => ?qh62) ?qr62
  case qh62 =>
    go_simp
    rfl
  simp only [Act.put, List.setIfInBounds_toArray, List.set_cons_zero, List.set_cons_succ]
  refine q_val (v := ?qv63) (by rfl) (fun W hW => ?qh63) ?qr63
  case qh63 =>
    have q1 := (Below.cell hW (p := ⟨R, 1, none⟩) hz).trans c1
    go_simp
    rfl
  simp only [Act.put, List.setIfInBounds_toArray, List.set_cons_zero, List.set_cons_succ]
  refine q_val (v := ?qv64) (by rfl) (fun W hW => ?qh64) ?qr64
  case qh64 =>
    go_simp
    rfl
  simp only [Act.put, List.setIfInBounds_toArray, List.set_cons_zero, List.set_cons_succ]
  refine q_val (v := ?qv65) (by rfl) (fun W hW => ?qh65) ?qr65
  case qh65 =>
    go_simp
    rfl
  simp only [Act.put, List.setIfInBounds_toArray, List.set_cons_zero, List.set_cons_succ]
  refine wpQuiet_nil ?_
  intro w2 hw2
  have C2 := C0.gr hw2
  clear C0 c0 c1 hw2 hz
  go_upto_region 16 with (first
    | (go_at_call 52; refine (HS.out _ C2.r).mono ?_; rintro x w5 ⟨rfl, h5, x5⟩; have C5 := C2.rd x5 h5 hRw; have zg : w.heap.size + 1 < w5.heap.size := C5.a.lt; have hzg : w5.heap.size ≠ R := (by omega))
    | (refine wpList_store_row rfl 72 (.tmp 8) (.tmp 52) rfl w5.heap.size (bsA noB) rfl rfl _ _ (SetQ.new w5 noB) (size_bsQ _) (by simp only [bsA_size]) (bsA_one _) ?_; have C6 := C5.gr (Gr.setRow (Gr.alloc (Gr.refl w5) (.cells (bsA noB) 72)) (g := w5.heap.size) (Nat.le_refl _) (bsA noB)); have hX6 : SetQ ((w5.alloc (.cells (bsA noB) 72)).setRow w5.heap.size (bsA noB)) w5.heap.size noB := SetQ.row (SetQ.new w5 noB)))
  clear C5 x5 h5 C2
  generalize (w5.alloc (.cells (bsA noB) 72)).setRow w5.heap.size (bsA noB) = w6 at C6 hX6 ⊢
  obtain ⟨gx, hgx⟩ : ∃ gx, gx = w5.heap.size := ⟨_, rfl⟩
  rw [← hgx] at zg hzg hX6 ⊢
  clear hgx
  have hcell := C6.a.cell hc
  have hf := C6.a.free c
  simp only [noB] at hcell
  go_upto_region 19 with ((refine wpList_load_row rfl 72 (.tmp 8) rfl (gx) rfl _ (bsA (noB)) (0, 0) _ hX6 und_arr rfl (size_bsQ _) ?_))
  have C7 : CQ R w (oneB c) s (n + 2) d e g A code (w6.setCell ⟨w.heap.size + 1, c, none⟩ (.bool true)) := C6.cell hRw c true hAw fun j _ => by simp only [oneB, noB]; cases (j == c) <;> rfl
  generalize w6.setCell ⟨w.heap.size + 1, c, none⟩ (.bool true) = w7 at C7 ⊢
  clear C6 hcell hf hX6 hqn
  go_wp2_with (first
    | (refine wpList_load_row rfl 72 (.tmp 4) rfl ((w.heap.size + 1)) rfl _ (bsA (oneB c)) (0, 0) _ C7.a und_arr rfl (size_bsQ _) ?_)
    | (refine wpList_store_row rfl 72 (.tmp 2) (.tmp 63) rfl (w.heap.size) (bsA (oneB c)) rfl rfl _ _ C7.b (size_bsQ _) (by simp only [bsA_size]) (bsA_one _) ?_))
  refine bodyPost_ret (v := .tuple #[.agg (bsA (oneB c)), .bool true]) (res_arr2 _ 2 3 (by kernel_rfl) _ _ w.heap.size _ _ rfl rfl (SetQ.row C7.b)) rfl ?_
  exact ⟨_, n + 2, rfl, C7.r.row' (by omega) (fun e => by have := hAw _ e; omega), C7.x.setRow (.inr (Nat.le_refl _)) _, by omega, fun F hF => by injection hF with hF; exact ⟨hF, Ht.out, by omega⟩⟩


set_option maxRecDepth 100000 in
set_option maxHeartbeats 6400000 in
theorem rset_special {w : World} {R n d e g : Nat} {s : ByteArray} {A : Option Addr} {code : List In} (h : RfW w R s n d e g A code) (hs : (s.size : Int) ≤ 4096) (hn : n < s.size) (h46 : s[n].toNat ≠ 46) (h91 : s[n].toNat ≠ 91) (h92 : s[n].toNat ≠ 92) (hsp : spcB (s[n].toNat) = true) {t : List UInt8} : Calls Try.prog 42 #[.pointer (some ⟨R, 0, none⟩)] w (RetK w R s d e g A code (none, t)) := by
  have HSP : Hid (∀ W, Calls Try.prog 53 #[.int .u8 s[n].toNat] W fun x w' => x = .returned (.bool true) ∧ W = w') := Lib.hid fun W => by
    have t := special_any (s[n].toNat) (s[n].toNat_lt) W
    rw [hsp] at t
    exact t
  clear hsp
  have hRw := h.lt
  have hAw : ∀ k, blk A = some k → k < w.heap.size := fun k hk => (h.row k hk).2
  obtain ⟨hz0, hsz0⟩ := zero_of_info info_arr
  have C0 : CQ R w noB s n d e g A code ((w.alloc (Obj.cells (bsA noB) 72)).alloc (Obj.cells (bsA noB) 72)) := CQ.start h
  have hn3 : (n : Int) < (s.size : Int) := by omega
  have hn4 : (n : Int) < 4096 := by omega
  have hq46 : ((s[n].toNat : Int) == 46) = false := by simp; omega
  have hq91 : ((s[n].toNat : Int) == 91) = false := by simp; omega
  have hq92 : ((s[n].toNat : Int) == 92) = false := by simp; omega
  clear h
  go_enter Try.func42, Try.ntmps42
  go_upto_region 2 with (fail)
  generalize ((w.alloc (Obj.cells (bsA noB) 72)).alloc (Obj.cells (bsA noB) 72)) = w1 at C0 ⊢
  have hz : R < w1.heap.size := C0.r.lt
  obtain ⟨cc1, hc1⟩ := id C0.r
  obtain ⟨c0, c1⟩ := And.intro hc1.c0 hc1.c1
  clear hc1
  refine region_Q (by kernel_rfl) (by kernel_rfl) ?_
  refine q_val (v := ?qv56) (by rfl) (fun W hW => ?qh56) ?qr56
  case qh56 =>
    go_simp
    rfl
  simp only [Act.put, List.setIfInBounds_toArray, List.set_cons_zero, List.set_cons_succ]
  refine q_val (v := ?qv57) (by rfl) (fun W hW => ?qh57) ?qr57
  case qh57 =>
    go_simp
    rfl
  simp only [Act.put, List.setIfInBounds_toArray, List.set_cons_zero, List.set_cons_succ]
  refine q_val (v := ?qv58) (by rfl) (fun W hW => ?qh58) ?qr58
  case qh58 =>
    go_simp
    rfl
  simp only [Act.put, List.setIfInBounds_toArray, List.set_cons_zero, List.set_cons_succ]
  refine q_val (v := ?qv59) (by rfl) (fun W hW => ?qh59) ?qr59
  case qh59 =>
    have q0 := (Below.cell hW (p := ⟨R, 0, none⟩) hz).trans c0
    go_simp
    rfl
  simp only [Act.put, List.setIfInBounds_toArray, List.set_cons_zero, List.set_cons_succ]
  refine q_val (v := ?qv60) (by rfl) (fun W hW => ?qh60) ?qr60
  case qh60 =>
    go_simp
    rfl
  simp only [Act.put, List.setIfInBounds_toArray, List.set_cons_zero, List.set_cons_succ]
  refine q_val (v := ?qv61) (by rfl) (fun W hW => ?qh61) ?qr61
  case qh61 =>
    go_simp
    rfl
  simp only [Act.put, List.setIfInBounds_toArray, List.set_cons_zero, List.set_cons_succ]
  refine q_val (v := ?qv62) (by rfl) (fun W hW => ?qh62) ?qr62
  case qh62 =>
    go_simp
    rfl
  simp only [Act.put, List.setIfInBounds_toArray, List.set_cons_zero, List.set_cons_succ]
  refine q_val (v := ?qv63) (by rfl) (fun W hW => ?qh63) ?qr63
  case qh63 =>
    have q1 := (Below.cell hW (p := ⟨R, 1, none⟩) hz).trans c1
    go_simp
    rfl
  simp only [Act.put, List.setIfInBounds_toArray, List.set_cons_zero, List.set_cons_succ]
  refine q_val (v := ?qv64) (by rfl) (fun W hW => ?qh64) ?qr64
  case qh64 =>
    go_simp
    rfl
  simp only [Act.put, List.setIfInBounds_toArray, List.set_cons_zero, List.set_cons_succ]
  refine q_val (v := ?qv65) (by rfl) (fun W hW => ?qh65) ?qr65
  case qh65 =>
    go_simp
    rfl
  simp only [Act.put, List.setIfInBounds_toArray, List.set_cons_zero, List.set_cons_succ]
  refine wpQuiet_nil ?_
  intro w2 hw2
  have C2 := C0.gr hw2
  clear C0 c0 c1 hw2 hz
  go_upto_region 21 with (go_at_call 53; refine (HSP.out _).mono ?_; rintro x w9 ⟨rfl, rfl⟩)
  go_wp2_with (first
    | (refine wpList_load_row rfl 72 (.tmp 4) rfl ((w.heap.size + 1)) rfl _ (bsA (noB)) (0, 0) _ C2.a und_arr rfl (size_bsQ _) ?_)
    | (refine wpList_store_row rfl 72 (.tmp 2) (.tmp 67) rfl (w.heap.size) (bsA (noB)) rfl rfl _ _ C2.b (size_bsQ _) (by simp only [bsA_size]) (bsA_one _) ?_))
  refine bodyPost_ret (v := .tuple #[.agg (bsA (noB)), .bool false]) (res_arr2 _ 2 3 (by kernel_rfl) _ _ w.heap.size _ _ rfl rfl (SetQ.row C2.b)) rfl ?_
  exact ⟨_, n, rfl, C2.r.row' (by omega) (fun e => by have := hAw _ e; omega), C2.x.setRow (.inr (Nat.le_refl _)) _, by omega, fun F hF => by cases hF⟩

set_option maxRecDepth 100000 in
set_option maxHeartbeats 6400000 in
theorem rset_plain {w : World} {R n d e g : Nat} {s : ByteArray} {A : Option Addr} {code : List In} (h : RfW w R s n d e g A code) (hs : (s.size : Int) ≤ 4096) (hn : n < s.size) (h46 : s[n].toNat ≠ 46) (h91 : s[n].toNat ≠ 91) (h92 : s[n].toNat ≠ 92) (hsp : spcB (s[n].toNat) = false) : Calls Try.prog 42 #[.pointer (some ⟨R, 0, none⟩)] w (RetK w R s d e g A code (some (oneB s[n].toNat), s.data.toList.drop (n + 1))) := by
  have HSP : Hid (∀ W, Calls Try.prog 53 #[.int .u8 s[n].toNat] W fun x w' => x = .returned (.bool false) ∧ W = w') := Lib.hid fun W => by
    have t := special_any (s[n].toNat) (s[n].toNat_lt) W
    rw [hsp] at t
    exact t
  clear hsp
  have hc : s[n].toNat < 256 := s[n].toNat_lt
  have hc3 : ((s[n].toNat : Nat) : Int) < 256 := by omega
  have hRw := h.lt
  have hAw : ∀ k, blk A = some k → k < w.heap.size := fun k hk => (h.row k hk).2
  obtain ⟨hz0, hsz0⟩ := zero_of_info info_arr
  have C0 : CQ R w noB s n d e g A code ((w.alloc (Obj.cells (bsA noB) 72)).alloc (Obj.cells (bsA noB) 72)) := CQ.start h
  have hn3 : (n : Int) < (s.size : Int) := by omega
  have hn4 : (n : Int) < 4096 := by omega
  have hq46 : ((s[n].toNat : Int) == 46) = false := by simp; omega
  have hq91 : ((s[n].toNat : Int) == 91) = false := by simp; omega
  have hq92 : ((s[n].toNat : Int) == 92) = false := by simp; omega
  clear h
  go_enter Try.func42, Try.ntmps42
  go_upto_region 2 with (fail)
  generalize ((w.alloc (Obj.cells (bsA noB) 72)).alloc (Obj.cells (bsA noB) 72)) = w1 at C0 ⊢
  have hz : R < w1.heap.size := C0.r.lt
  obtain ⟨cc1, hc1⟩ := id C0.r
  obtain ⟨c0, c1⟩ := And.intro hc1.c0 hc1.c1
  clear hc1
  refine region_Q (by kernel_rfl) (by kernel_rfl) ?_
  refine q_val (v := ?qv56) (by rfl) (fun W hW => ?qh56) ?qr56
  case qh56 =>
    go_simp
    rfl
  simp only [Act.put, List.setIfInBounds_toArray, List.set_cons_zero, List.set_cons_succ]
  refine q_val (v := ?qv57) (by rfl) (fun W hW => ?qh57) ?qr57
  case qh57 =>
    go_simp
    rfl
  simp only [Act.put, List.setIfInBounds_toArray, List.set_cons_zero, List.set_cons_succ]
  refine q_val (v := ?qv58) (by rfl) (fun W hW => ?qh58) ?qr58
  case qh58 =>
    go_simp
    rfl
  simp only [Act.put, List.setIfInBounds_toArray, List.set_cons_zero, List.set_cons_succ]
  refine q_val (v := ?qv59) (by rfl) (fun W hW => ?qh59) ?qr59
  case qh59 =>
    have q0 := (Below.cell hW (p := ⟨R, 0, none⟩) hz).trans c0
    go_simp
    rfl
  simp only [Act.put, List.setIfInBounds_toArray, List.set_cons_zero, List.set_cons_succ]
  refine q_val (v := ?qv60) (by rfl) (fun W hW => ?qh60) ?qr60
  case qh60 =>
    go_simp
    rfl
  simp only [Act.put, List.setIfInBounds_toArray, List.set_cons_zero, List.set_cons_succ]
  refine q_val (v := ?qv61) (by rfl) (fun W hW => ?qh61) ?qr61
  case qh61 =>
    go_simp
    rfl
  simp only [Act.put, List.setIfInBounds_toArray, List.set_cons_zero, List.set_cons_succ]
  refine q_val (v := ?qv62) (by rfl) (fun W hW => ?qh62) ?qr62
  case qh62 =>
    go_simp
    rfl
  simp only [Act.put, List.setIfInBounds_toArray, List.set_cons_zero, List.set_cons_succ]
  refine q_val (v := ?qv63) (by rfl) (fun W hW => ?qh63) ?qr63
  case qh63 =>
    have q1 := (Below.cell hW (p := ⟨R, 1, none⟩) hz).trans c1
    go_simp
    rfl
  simp only [Act.put, List.setIfInBounds_toArray, List.set_cons_zero, List.set_cons_succ]
  refine q_val (v := ?qv64) (by rfl) (fun W hW => ?qh64) ?qr64
  case qh64 =>
    go_simp
    rfl
  simp only [Act.put, List.setIfInBounds_toArray, List.set_cons_zero, List.set_cons_succ]
  refine q_val (v := ?qv65) (by rfl) (fun W hW => ?qh65) ?qr65
  case qh65 =>
    go_simp
    rfl
  simp only [Act.put, List.setIfInBounds_toArray, List.set_cons_zero, List.set_cons_succ]
  refine wpQuiet_nil ?_
  intro w2 hw2
  have C2 := C0.gr hw2
  clear C0 c0 c1 hw2 hz
  obtain ⟨cc2, hc2⟩ := id C2.r
  obtain ⟨c1, f1⟩ := And.intro hc2.c1 hc2.f1
  clear hc2
  go_upto_region 23 with (go_at_call 53; refine (HSP.out _).mono ?_; rintro x w9 ⟨rfl, rfl⟩)
  have C3 := C2.rd (GX.setCell (p := ⟨R, 1, none⟩) (GX.refl R w2) (.inl rfl) (.int .i64 ((n : Int) + 1))) (by have t := C2.r.setAt (n + 1); rwa [show ((n + 1 : Nat) : Int) = (n : Int) + 1 by omega] at t) hRw
  clear C2 c1 f1
  generalize w2.setCell ⟨R, 1, none⟩ (.int .i64 ((n : Int) + 1)) = w3 at C3 ⊢
  have hcell := C3.a.cell hc
  have hf := C3.a.free s[n].toNat
  simp only [noB] at hcell
  go_upto_region 24 with (fail)
  have C7 : CQ R w (oneB s[n].toNat) s (n + 1) d e g A code (w3.setCell ⟨w.heap.size + 1, s[n].toNat, none⟩ (.bool true)) := C3.cell hRw s[n].toNat true hAw fun j _ => by simp only [oneB, noB]; cases (j == s[n].toNat) <;> rfl
  generalize w3.setCell ⟨w.heap.size + 1, s[n].toNat, none⟩ (.bool true) = w7 at C7 ⊢
  clear C3 hcell hf
  go_wp2_with (first
    | (refine wpList_load_row rfl 72 (.tmp 4) rfl ((w.heap.size + 1)) rfl _ (bsA (oneB s[n].toNat)) (0, 0) _ C7.a und_arr rfl (size_bsQ _) ?_)
    | (refine wpList_store_row rfl 72 (.tmp 2) (.tmp 77) rfl (w.heap.size) (bsA (oneB s[n].toNat)) rfl rfl _ _ C7.b (size_bsQ _) (by simp only [bsA_size]) (bsA_one _) ?_))
  refine bodyPost_ret (v := .tuple #[.agg (bsA (oneB s[n].toNat)), .bool true]) (res_arr2 _ 2 3 (by kernel_rfl) _ _ w.heap.size _ _ rfl rfl (SetQ.row C7.b)) rfl ?_
  exact ⟨_, n + 1, rfl, C7.r.row' (by omega) (fun e => by have := hAw _ e; omega), C7.x.setRow (.inr (Nat.le_refl _)) _, by omega, fun F hF => by injection hF with hF; exact ⟨hF, rfl, by omega⟩⟩

theorem rset_any {w : World} {R n d e g : Nat} {s : ByteArray} {A : Option Addr} {code : List In} (h : RfW w R s n d e g A code) (hs : (s.size : Int) ≤ 4096) (hn : n < s.size) : Calls Try.prog 42 #[.pointer (some ⟨R, 0, none⟩)] w (RetK w R s d e g A code (bytesS (s[n].toNat) (s.data.toList.drop (n + 1)))) := by
  unfold bytesS
  by_cases h46 : s[n].toNat = 46
  · rw [beq_iff_eq.2 h46, cond_true]; exact rset_dot h hs hn h46
  rw [beq_eq_false_iff_ne.2 h46, cond_false]
  by_cases h91 : s[n].toNat = 91
  · rw [beq_iff_eq.2 h91, cond_true]; exact rset_class h hs hn h91
  rw [beq_eq_false_iff_ne.2 h91, cond_false]
  by_cases h92 : s[n].toNat = 92
  · rw [beq_iff_eq.2 h92, cond_true]
    rcases hx : escS (s.data.toList.drop (n + 1)) with ⟨_ | f, t⟩
    · obtain ⟨n', c, f, hn', HS⟩ := stroke_none h hs hn hx
      exact rset_stroke0 h hs hn h92 hn' HS
    · obtain ⟨c, m, hc, ht, hn2, hm, HS⟩ := stroke_some h hs hn hx
      rcases hm with ⟨rfl, rfl⟩ | ⟨c', hnm, rfl⟩
      · exact rset_stroke2 h hs hn h92 hc hn2 ht HS
      · exact rset_stroke1 h hs hn h92 hn2 ht hnm HS
  rw [beq_eq_false_iff_ne.2 h92, cond_false]
  cases hsp : spcB (s[n].toNat)
  · exact rset_plain h hs hn h46 h91 h92 hsp
  · exact rset_special h hs hn h46 h91 h92 hsp
end Go.Proofs.Ytpcmdijgepbilaa
