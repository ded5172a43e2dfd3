/- The contract of rex.reader.piece. -/
import Derived.Test.YtjapddfnpmlifaaGreatDoorRxAtom
namespace Go.Proofs.YtjapddfnpmlifaaGreatDoor
set_option linter.unusedVariables false
set_option linter.unusedSimpArgs false
open Go.RowKit

/-- an array of one piece, in a world that has grown. -/
theorem Rkn.one {R b lo : Nat} {w3 w5 : World} (T : TypeId) (y : GX R (w3.alloc (.cells #[.pointer (some ⟨b, 0, none⟩)] T)) w5) (hR : R < w3.heap.size) (hlo : lo < w3.heap.size) : Rkn lo w5.heap.size w5 (.slice (some ⟨w3.heap.size, 0, none⟩) 1 1) [b] := by
 have h0 := Rd.byte (W := w3) rfl T (.pointer (some ⟨b, 0, none⟩))
 have hz := y.size
 simp at hz
 refine ⟨some ⟨w3.heap.size, 0, none⟩, 1, rfl, Rd.gx h0 y (fun _ ad ha => by injection ha with ha; subst ha; simp; omega), fun _ ad ha => ?_⟩
 injection ha with ha
 subst ha
 exact ⟨hlo, by simp; omega⟩
theorem RetP.rep {R b m : Nat} {s : ByteArray} {w w3 w5 : World} {p : Pc} {q : Rs} (T : TypeId) (op : Nat) (z : Bool) (hR : R < w.heap.size) (x : GX R w w3) (k : p.In (w.heap.size - 1) w3.heap.size w3 b) (y : GX R (w3.alloc (.cells #[.pointer (some ⟨b, 0, none⟩)] T)) w5) (h : Rdr w5 R s m q) :
  RetP R s w (.rep op z p) q (.returned (.pointer (some ⟨w5.heap.size, 0, none⟩))) (w5.alloc (.cells #[.int .i64 op, .string ⟨#[]⟩, .slice (some ⟨w3.heap.size, 0, none⟩) 1 1, .int .i64 0, .bool z] 179)) := by
 have hx := x.size
 have y1 : GX R (w3.alloc (.cells #[.pointer (some ⟨b, 0, none⟩)] T)) (w5.alloc (.cells #[.int .i64 op, .string ⟨#[]⟩, .slice (some ⟨w3.heap.size, 0, none⟩) 1 1, .int .i64 0, .bool z] 179)) := y.alloc _
 have y2 : GX R w3 (w5.alloc (.cells #[.int .i64 op, .string ⟨#[]⟩, .slice (some ⟨w3.heap.size, 0, none⟩) 1 1, .int .i64 0, .bool z] 179)) := (GX.of_gr (Gr.alloc (Gr.refl w3) _)).trans y1
 have hy := y2.size
 refine ⟨_, m, rfl, ?_, x.trans y2, h.gr (Gr.alloc (Gr.refl _) _)⟩
 have hz := y.size
 simp at hz
 simp only [Pc.In]
 exact ⟨by omega, by simp, _, b, node_new w5 op 0 [] _ z, Rkn.one T y1 (by omega) (by omega), Pc.In.wide (Nat.le_refl _) hy _ _ (Pc.In.same (Same.gx y2 (Nat.le_refl _) (by omega)) _ _ k)⟩
theorem now_free {w : World} {R n : Nat} {s : ByteArray} {q : Rs} (h : Rdr w R s n q) (hs : (s.size : Int) ≤ 4096) :
  Calls Tryz.prog 135 #[.pointer (some ⟨R, 0, none⟩)] w fun e w' => ∃ (c : Nat) (z : Bool), e = .returned (.tuple #[.int .u8 c, .bool z]) ∧ Gr w w' := by
 match e : q.rest with
 | [] => exact (now_end h hs e).mono fun e w' h => ⟨0, false, h.1, h.2⟩
 | c :: r => exact (now_some h hs e).mono fun e w' h => ⟨c.toNat, true, h.1, h.2⟩
theorem atom_all {w : World} {R n : Nat} {s : ByteArray} {q : Rs} (Wf : Rs → Pc × Rs) (h : Rdr w R s n q) (hs : (s.size : Int) ≤ 4096) {c : UInt8} {r : List UInt8} (hq : q.rest = c :: r)
  (HG : ∀ W, Rdr W R s (n + 1) { q with rest := r } → Calls Tryz.prog 152 #[.pointer (some ⟨R, 0, none⟩)] W (RetP R s W (groupS Wf { q with rest := r }).1 (groupS Wf { q with rest := r }).2)) :
  Calls Tryz.prog 146 #[.pointer (some ⟨R, 0, none⟩)] w (RetP R s w (atomS Wf q).1 (atomS Wf q).2) := by
 unfold atomS
 rw [hq]
 simp only
 by_cases h40 : c.toNat = 40
 ·
  rw [show (c.toNat == 40) = true from by rw [h40]; rfl]; exact atom_group h hs hq h40 _ _ HG
 by_cases h94 : c.toNat = 94
 ·
  simp only [h94, Nat.reduceBEq, cond_true, cond_false]; exact atom_begin h hs hq h94
 by_cases h36 : c.toNat = 36
 ·
  simp only [h36, Nat.reduceBEq, cond_true, cond_false]; exact atom_end h hs hq h36
 by_cases h46 : c.toNat = 46
 ·
  simp only [h46, Nat.reduceBEq, cond_true, cond_false]; exact atom_any h hs hq h46
 by_cases h91 : c.toNat = 91
 ·
  simp only [h91, Nat.reduceBEq, cond_true, cond_false]; exact atom_class h hs hq h91 _ rfl
 by_cases h92 : c.toNat = 92
 ·
  simp only [h92, Nat.reduceBEq, cond_true, cond_false]; exact atom_esc h hs hq h92 _ rfl
 rw [beq_eq_false_iff_ne.2 h40, beq_eq_false_iff_ne.2 h94, beq_eq_false_iff_ne.2 h36, beq_eq_false_iff_ne.2 h46, beq_eq_false_iff_ne.2 h91, beq_eq_false_iff_ne.2 h92]
 simp only [cond_false]
 by_cases h124 : c.toNat = 124
 ·
  rw [h124]; exact atom_stop124 h hs hq h124
 by_cases h63 : c.toNat = 63
 ·
  rw [h63]; exact atom_stop63 h hs hq h63
 by_cases h42 : c.toNat = 42
 ·
  rw [h42]; exact atom_stop42 h hs hq h42
 by_cases h43 : c.toNat = 43
 ·
  rw [h43]; exact atom_stop43 h hs hq h43
 by_cases h41 : c.toNat = 41
 ·
  rw [h41]; exact atom_stop41 h hs hq h41
 have hst : stopC c.toNat = false := by
  unfold stopC
  rw [beq_eq_false_iff_ne.2 h124, beq_eq_false_iff_ne.2 h63, beq_eq_false_iff_ne.2 h42, beq_eq_false_iff_ne.2 h43, beq_eq_false_iff_ne.2 h41]
  rfl
 rw [hst]
 exact atom_else h hs hq (by simp only [List.mem_cons, List.not_mem_nil, or_false, forall_eq_or_imp, forall_eq]; exact ⟨h40, h94, h36, h46, h91, h92, h124, h63, h42, h43, h41⟩)

set_option maxRecDepth 100000 in
set_option maxHeartbeats 3200000 in
theorem piece_bad {w : World} {R n : Nat} {s : ByteArray} {q : Rs} (h : Rdr w R s n q) (hs : (s.size : Int) ≤ 4096) (A : Pc) (t : Rs) (HA : Calls Tryz.prog 146 #[.pointer (some ⟨R, 0, none⟩)] w (RetP R s w A t)) (hb : t.bad = true) :
  Calls Tryz.prog 136 #[.pointer (some ⟨R, 0, none⟩)] w (RetP R s w (A) t) := by
 have hR := h.lt
 clear h
 go_enter Tryz.func136, Tryz.ntmps136
 go_upto_region 2 with (go_at_call 146; refine HA.mono ?_; rintro e w3 ⟨b, m, rfl, k, x, h3⟩)
 clear HA
 have QN := now_free h3 hs
 go_upto_region 3 with (go_at_call 135; refine QN.mono ?_; rintro e w4 ⟨c, z, rfl, g4⟩)
 have h4 := h3.gr g4
 clear QN
 obtain ⟨c4, f4⟩ := And.intro h4.c4 h4.f4
 rw [hb] at c4
 go_wp2
 go_ret
 exact ⟨b, m, rfl, Pc.In.wide (Nat.le_refl _) g4.size _ _ (Pc.In.same (Same.gr g4 (Nat.le_refl _)) _ _ k), x.trans (GX.of_gr g4), h4⟩

set_option maxRecDepth 100000 in
set_option maxHeartbeats 3200000 in
theorem piece_end {w : World} {R n : Nat} {s : ByteArray} {q : Rs} (h : Rdr w R s n q) (hs : (s.size : Int) ≤ 4096) (A : Pc) (t : Rs) (HA : Calls Tryz.prog 146 #[.pointer (some ⟨R, 0, none⟩)] w (RetP R s w A t)) (hb : t.bad = false) (ht : t.rest = []) :
  Calls Tryz.prog 136 #[.pointer (some ⟨R, 0, none⟩)] w (RetP R s w (A) t) := by
 have hR := h.lt
 clear h
 go_enter Tryz.func136, Tryz.ntmps136
 go_upto_region 2 with (go_at_call 146; refine HA.mono ?_; rintro e w3 ⟨b, m, rfl, k, x, h3⟩)
 clear HA
 have QN := now_end h3 hs ht
 go_upto_region 3 with (go_at_call 135; refine QN.mono ?_; rintro e w4 ⟨rfl, g4⟩)
 have h4 := h3.gr g4
 clear QN
 obtain ⟨c4, f4⟩ := And.intro h4.c4 h4.f4
 rw [hb] at c4
 go_wp2
 go_ret
 exact ⟨b, m, rfl, Pc.In.wide (Nat.le_refl _) g4.size _ _ (Pc.In.same (Same.gr g4 (Nat.le_refl _)) _ _ k), x.trans (GX.of_gr g4), h4⟩

set_option maxRecDepth 100000 in
set_option maxHeartbeats 3200000 in
theorem piece_no {w : World} {R n : Nat} {s : ByteArray} {q : Rs} (h : Rdr w R s n q) (hs : (s.size : Int) ≤ 4096) (A : Pc) (t : Rs) (HA : Calls Tryz.prog 146 #[.pointer (some ⟨R, 0, none⟩)] w (RetP R s w A t)) (hb : t.bad = false) {d : UInt8} {r : List UInt8} (ht : t.rest = d :: r) (hd : d.toNat ≠ 42 ∧ d.toNat ≠ 43 ∧ d.toNat ≠ 63) :
  Calls Tryz.prog 136 #[.pointer (some ⟨R, 0, none⟩)] w (RetP R s w (A) t) := by
 have hR := h.lt
 clear h
 obtain ⟨d42, d43, d63⟩ := hd
 have k42 : ((d.toNat : Int) != 42) = true := by simp; omega
 have k43 : ((d.toNat : Int) != 43) = true := by simp; omega
 have k63 : ((d.toNat : Int) != 63) = true := by simp; omega
 go_enter Tryz.func136, Tryz.ntmps136
 go_upto_region 2 with (go_at_call 146; refine HA.mono ?_; rintro e w3 ⟨b, m, rfl, k, x, h3⟩)
 clear HA
 have QN := now_some h3 hs ht
 go_upto_region 3 with (go_at_call 135; refine QN.mono ?_; rintro e w4 ⟨rfl, g4⟩)
 have h4 := h3.gr g4
 clear QN
 obtain ⟨c4, f4⟩ := And.intro h4.c4 h4.f4
 rw [hb] at c4
 go_wp2
 go_ret
 exact ⟨b, m, rfl, Pc.In.wide (Nat.le_refl _) g4.size _ _ (Pc.In.same (Same.gr g4 (Nat.le_refl _)) _ _ k), x.trans (GX.of_gr g4), h4⟩

set_option maxRecDepth 100000 in
set_option maxHeartbeats 3200000 in
theorem piece_rep42true {w : World} {R n : Nat} {s : ByteArray} {q : Rs} (h : Rdr w R s n q) (hs : (s.size : Int) ≤ 4096) (A : Pc) (t : Rs) (HA : Calls Tryz.prog 146 #[.pointer (some ⟨R, 0, none⟩)] w (RetP R s w A t)) (hb : t.bad = false) {d : UInt8} {r : List UInt8} (ht : t.rest = d :: r) (hd : d.toNat = 42) (hz : headIs 63 r = true) :
  Calls Tryz.prog 136 #[.pointer (some ⟨R, 0, none⟩)] w (RetP R s w (.rep 42 true A) { t with rest := r.drop 1 }) := by
 have hR := h.lt
 clear h
 go_enter Tryz.func136, Tryz.ntmps136
 go_upto_region 2 with (go_at_call 146; refine HA.mono ?_; rintro e w3 ⟨b, m, rfl, k, x, h3⟩)
 clear HA
 have QN := now_some h3 hs ht
 simp only [hd] at QN
 go_upto_region 3 with (go_at_call 135; refine QN.mono ?_; rintro e w4 ⟨rfl, g4⟩)
 have h4 := h3.gr g4
 clear QN
 obtain ⟨c4, f4⟩ := And.intro h4.c4 h4.f4
 rw [hb] at c4
 have hle := h4.len
 rw [ht] at hle
 simp at hle
 have hm : (m : Int) < 4096 := by omega
 have hwr := wrap_in ((m : Int) + 1) (by omega) (by omega)
 clear hle
 go_upto_region 5 with (fail)
 obtain ⟨c1, f1⟩ := And.intro h4.c1 h4.f1
 clear c4 f4
 go_upto_region 6 with (fail)
 have h5 := h4.next ht
 have x5 : GX R w (w4.setCell ⟨R, 1, none⟩ (.int .i64 ((m : Int) + 1))) := GX.setCell (p := ⟨R, 1, none⟩) (x.trans (GX.of_gr g4)) (.inl rfl) _
 have k5 := Pc.In.same (Same.gx (GX.setCell (p := ⟨R, 1, none⟩) (GX.of_gr (R := R) g4) (.inl rfl) (.int .i64 ((m : Int) + 1))) (Nat.le_refl _) (by omega)) _ _ k
 have k6 := Pc.In.wide (Nat.le_refl _) (GX.setCell (p := ⟨R, 1, none⟩) (GX.of_gr (R := R) g4) (.inl rfl) (.int .i64 ((m : Int) + 1))).size _ _ k5
 clear c1 f1 h4 g4 h3 x k k5 hwr
 generalize (w4.setCell ⟨R, 1, none⟩ (.int .i64 ((m : Int) + 1))) = w6 at h5 x5 k6 ⊢
 have Q7 := fun o => takes_yes (h5.gr (Gr.alloc (Gr.refl w6) o)) hs 63 (by decide) hz
 go_wp2_with (go_at_call 109; refine (Q7 _).mono ?_; rintro e w8 ⟨rfl, x8, h8⟩)
 go_ret
 exact RetP.rep _ 42 true hR x5 k6 x8 h8

set_option maxRecDepth 100000 in
set_option maxHeartbeats 3200000 in
theorem piece_rep42false {w : World} {R n : Nat} {s : ByteArray} {q : Rs} (h : Rdr w R s n q) (hs : (s.size : Int) ≤ 4096) (A : Pc) (t : Rs) (HA : Calls Tryz.prog 146 #[.pointer (some ⟨R, 0, none⟩)] w (RetP R s w A t)) (hb : t.bad = false) {d : UInt8} {r : List UInt8} (ht : t.rest = d :: r) (hd : d.toNat = 42) (hz : headIs 63 r = false) :
  Calls Tryz.prog 136 #[.pointer (some ⟨R, 0, none⟩)] w (RetP R s w (.rep 42 false A) { t with rest := r }) := by
 have hR := h.lt
 clear h
 go_enter Tryz.func136, Tryz.ntmps136
 go_upto_region 2 with (go_at_call 146; refine HA.mono ?_; rintro e w3 ⟨b, m, rfl, k, x, h3⟩)
 clear HA
 have QN := now_some h3 hs ht
 simp only [hd] at QN
 go_upto_region 3 with (go_at_call 135; refine QN.mono ?_; rintro e w4 ⟨rfl, g4⟩)
 have h4 := h3.gr g4
 clear QN
 obtain ⟨c4, f4⟩ := And.intro h4.c4 h4.f4
 rw [hb] at c4
 have hle := h4.len
 rw [ht] at hle
 simp at hle
 have hm : (m : Int) < 4096 := by omega
 have hwr := wrap_in ((m : Int) + 1) (by omega) (by omega)
 clear hle
 go_upto_region 5 with (fail)
 obtain ⟨c1, f1⟩ := And.intro h4.c1 h4.f1
 clear c4 f4
 go_upto_region 6 with (fail)
 have h5 := h4.next ht
 have x5 : GX R w (w4.setCell ⟨R, 1, none⟩ (.int .i64 ((m : Int) + 1))) := GX.setCell (p := ⟨R, 1, none⟩) (x.trans (GX.of_gr g4)) (.inl rfl) _
 have k5 := Pc.In.same (Same.gx (GX.setCell (p := ⟨R, 1, none⟩) (GX.of_gr (R := R) g4) (.inl rfl) (.int .i64 ((m : Int) + 1))) (Nat.le_refl _) (by omega)) _ _ k
 have k6 := Pc.In.wide (Nat.le_refl _) (GX.setCell (p := ⟨R, 1, none⟩) (GX.of_gr (R := R) g4) (.inl rfl) (.int .i64 ((m : Int) + 1))).size _ _ k5
 clear c1 f1 h4 g4 h3 x k k5 hwr
 generalize (w4.setCell ⟨R, 1, none⟩ (.int .i64 ((m : Int) + 1))) = w6 at h5 x5 k6 ⊢
 have Q7 := fun o => takes_no (h5.gr (Gr.alloc (Gr.refl w6) o)) hs 63 (by decide) hz
 go_wp2_with (go_at_call 109; refine (Q7 _).mono ?_; rintro e w8 ⟨rfl, g8⟩; have x8 := GX.of_gr (R := R) g8; have h8 := (h5.gr (Gr.alloc (Gr.refl w6) _)).gr g8)
 go_ret
 exact RetP.rep _ 42 false hR x5 k6 x8 h8

set_option maxRecDepth 100000 in
set_option maxHeartbeats 3200000 in
theorem piece_rep43true {w : World} {R n : Nat} {s : ByteArray} {q : Rs} (h : Rdr w R s n q) (hs : (s.size : Int) ≤ 4096) (A : Pc) (t : Rs) (HA : Calls Tryz.prog 146 #[.pointer (some ⟨R, 0, none⟩)] w (RetP R s w A t)) (hb : t.bad = false) {d : UInt8} {r : List UInt8} (ht : t.rest = d :: r) (hd : d.toNat = 43) (hz : headIs 63 r = true) :
  Calls Tryz.prog 136 #[.pointer (some ⟨R, 0, none⟩)] w (RetP R s w (.rep 43 true A) { t with rest := r.drop 1 }) := by
 have hR := h.lt
 clear h
 go_enter Tryz.func136, Tryz.ntmps136
 go_upto_region 2 with (go_at_call 146; refine HA.mono ?_; rintro e w3 ⟨b, m, rfl, k, x, h3⟩)
 clear HA
 have QN := now_some h3 hs ht
 simp only [hd] at QN
 go_upto_region 3 with (go_at_call 135; refine QN.mono ?_; rintro e w4 ⟨rfl, g4⟩)
 have h4 := h3.gr g4
 clear QN
 obtain ⟨c4, f4⟩ := And.intro h4.c4 h4.f4
 rw [hb] at c4
 have hle := h4.len
 rw [ht] at hle
 simp at hle
 have hm : (m : Int) < 4096 := by omega
 have hwr := wrap_in ((m : Int) + 1) (by omega) (by omega)
 clear hle
 go_upto_region 5 with (fail)
 obtain ⟨c1, f1⟩ := And.intro h4.c1 h4.f1
 clear c4 f4
 go_upto_region 6 with (fail)
 have h5 := h4.next ht
 have x5 : GX R w (w4.setCell ⟨R, 1, none⟩ (.int .i64 ((m : Int) + 1))) := GX.setCell (p := ⟨R, 1, none⟩) (x.trans (GX.of_gr g4)) (.inl rfl) _
 have k5 := Pc.In.same (Same.gx (GX.setCell (p := ⟨R, 1, none⟩) (GX.of_gr (R := R) g4) (.inl rfl) (.int .i64 ((m : Int) + 1))) (Nat.le_refl _) (by omega)) _ _ k
 have k6 := Pc.In.wide (Nat.le_refl _) (GX.setCell (p := ⟨R, 1, none⟩) (GX.of_gr (R := R) g4) (.inl rfl) (.int .i64 ((m : Int) + 1))).size _ _ k5
 clear c1 f1 h4 g4 h3 x k k5 hwr
 generalize (w4.setCell ⟨R, 1, none⟩ (.int .i64 ((m : Int) + 1))) = w6 at h5 x5 k6 ⊢
 have Q7 := fun o => takes_yes (h5.gr (Gr.alloc (Gr.refl w6) o)) hs 63 (by decide) hz
 go_wp2_with (go_at_call 109; refine (Q7 _).mono ?_; rintro e w8 ⟨rfl, x8, h8⟩)
 go_ret
 exact RetP.rep _ 43 true hR x5 k6 x8 h8

set_option maxRecDepth 100000 in
set_option maxHeartbeats 3200000 in
theorem piece_rep43false {w : World} {R n : Nat} {s : ByteArray} {q : Rs} (h : Rdr w R s n q) (hs : (s.size : Int) ≤ 4096) (A : Pc) (t : Rs) (HA : Calls Tryz.prog 146 #[.pointer (some ⟨R, 0, none⟩)] w (RetP R s w A t)) (hb : t.bad = false) {d : UInt8} {r : List UInt8} (ht : t.rest = d :: r) (hd : d.toNat = 43) (hz : headIs 63 r = false) :
  Calls Tryz.prog 136 #[.pointer (some ⟨R, 0, none⟩)] w (RetP R s w (.rep 43 false A) { t with rest := r }) := by
 have hR := h.lt
 clear h
 go_enter Tryz.func136, Tryz.ntmps136
 go_upto_region 2 with (go_at_call 146; refine HA.mono ?_; rintro e w3 ⟨b, m, rfl, k, x, h3⟩)
 clear HA
 have QN := now_some h3 hs ht
 simp only [hd] at QN
 go_upto_region 3 with (go_at_call 135; refine QN.mono ?_; rintro e w4 ⟨rfl, g4⟩)
 have h4 := h3.gr g4
 clear QN
 obtain ⟨c4, f4⟩ := And.intro h4.c4 h4.f4
 rw [hb] at c4
 have hle := h4.len
 rw [ht] at hle
 simp at hle
 have hm : (m : Int) < 4096 := by omega
 have hwr := wrap_in ((m : Int) + 1) (by omega) (by omega)
 clear hle
 go_upto_region 5 with (fail)
 obtain ⟨c1, f1⟩ := And.intro h4.c1 h4.f1
 clear c4 f4
 go_upto_region 6 with (fail)
 have h5 := h4.next ht
 have x5 : GX R w (w4.setCell ⟨R, 1, none⟩ (.int .i64 ((m : Int) + 1))) := GX.setCell (p := ⟨R, 1, none⟩) (x.trans (GX.of_gr g4)) (.inl rfl) _
 have k5 := Pc.In.same (Same.gx (GX.setCell (p := ⟨R, 1, none⟩) (GX.of_gr (R := R) g4) (.inl rfl) (.int .i64 ((m : Int) + 1))) (Nat.le_refl _) (by omega)) _ _ k
 have k6 := Pc.In.wide (Nat.le_refl _) (GX.setCell (p := ⟨R, 1, none⟩) (GX.of_gr (R := R) g4) (.inl rfl) (.int .i64 ((m : Int) + 1))).size _ _ k5
 clear c1 f1 h4 g4 h3 x k k5 hwr
 generalize (w4.setCell ⟨R, 1, none⟩ (.int .i64 ((m : Int) + 1))) = w6 at h5 x5 k6 ⊢
 have Q7 := fun o => takes_no (h5.gr (Gr.alloc (Gr.refl w6) o)) hs 63 (by decide) hz
 go_wp2_with (go_at_call 109; refine (Q7 _).mono ?_; rintro e w8 ⟨rfl, g8⟩; have x8 := GX.of_gr (R := R) g8; have h8 := (h5.gr (Gr.alloc (Gr.refl w6) _)).gr g8)
 go_ret
 exact RetP.rep _ 43 false hR x5 k6 x8 h8

set_option maxRecDepth 100000 in
set_option maxHeartbeats 3200000 in
theorem piece_rep63true {w : World} {R n : Nat} {s : ByteArray} {q : Rs} (h : Rdr w R s n q) (hs : (s.size : Int) ≤ 4096) (A : Pc) (t : Rs) (HA : Calls Tryz.prog 146 #[.pointer (some ⟨R, 0, none⟩)] w (RetP R s w A t)) (hb : t.bad = false) {d : UInt8} {r : List UInt8} (ht : t.rest = d :: r) (hd : d.toNat = 63) (hz : headIs 63 r = true) :
  Calls Tryz.prog 136 #[.pointer (some ⟨R, 0, none⟩)] w (RetP R s w (.rep 63 true A) { t with rest := r.drop 1 }) := by
 have hR := h.lt
 clear h
 go_enter Tryz.func136, Tryz.ntmps136
 go_upto_region 2 with (go_at_call 146; refine HA.mono ?_; rintro e w3 ⟨b, m, rfl, k, x, h3⟩)
 clear HA
 have QN := now_some h3 hs ht
 simp only [hd] at QN
 go_upto_region 3 with (go_at_call 135; refine QN.mono ?_; rintro e w4 ⟨rfl, g4⟩)
 have h4 := h3.gr g4
 clear QN
 obtain ⟨c4, f4⟩ := And.intro h4.c4 h4.f4
 rw [hb] at c4
 have hle := h4.len
 rw [ht] at hle
 simp at hle
 have hm : (m : Int) < 4096 := by omega
 have hwr := wrap_in ((m : Int) + 1) (by omega) (by omega)
 clear hle
 go_upto_region 5 with (fail)
 obtain ⟨c1, f1⟩ := And.intro h4.c1 h4.f1
 clear c4 f4
 go_upto_region 6 with (fail)
 have h5 := h4.next ht
 have x5 : GX R w (w4.setCell ⟨R, 1, none⟩ (.int .i64 ((m : Int) + 1))) := GX.setCell (p := ⟨R, 1, none⟩) (x.trans (GX.of_gr g4)) (.inl rfl) _
 have k5 := Pc.In.same (Same.gx (GX.setCell (p := ⟨R, 1, none⟩) (GX.of_gr (R := R) g4) (.inl rfl) (.int .i64 ((m : Int) + 1))) (Nat.le_refl _) (by omega)) _ _ k
 have k6 := Pc.In.wide (Nat.le_refl _) (GX.setCell (p := ⟨R, 1, none⟩) (GX.of_gr (R := R) g4) (.inl rfl) (.int .i64 ((m : Int) + 1))).size _ _ k5
 clear c1 f1 h4 g4 h3 x k k5 hwr
 generalize (w4.setCell ⟨R, 1, none⟩ (.int .i64 ((m : Int) + 1))) = w6 at h5 x5 k6 ⊢
 have Q7 := fun o => takes_yes (h5.gr (Gr.alloc (Gr.refl w6) o)) hs 63 (by decide) hz
 go_wp2_with (go_at_call 109; refine (Q7 _).mono ?_; rintro e w8 ⟨rfl, x8, h8⟩)
 go_ret
 exact RetP.rep _ 63 true hR x5 k6 x8 h8

set_option maxRecDepth 100000 in
set_option maxHeartbeats 3200000 in
theorem piece_rep63false {w : World} {R n : Nat} {s : ByteArray} {q : Rs} (h : Rdr w R s n q) (hs : (s.size : Int) ≤ 4096) (A : Pc) (t : Rs) (HA : Calls Tryz.prog 146 #[.pointer (some ⟨R, 0, none⟩)] w (RetP R s w A t)) (hb : t.bad = false) {d : UInt8} {r : List UInt8} (ht : t.rest = d :: r) (hd : d.toNat = 63) (hz : headIs 63 r = false) :
  Calls Tryz.prog 136 #[.pointer (some ⟨R, 0, none⟩)] w (RetP R s w (.rep 63 false A) { t with rest := r }) := by
 have hR := h.lt
 clear h
 go_enter Tryz.func136, Tryz.ntmps136
 go_upto_region 2 with (go_at_call 146; refine HA.mono ?_; rintro e w3 ⟨b, m, rfl, k, x, h3⟩)
 clear HA
 have QN := now_some h3 hs ht
 simp only [hd] at QN
 go_upto_region 3 with (go_at_call 135; refine QN.mono ?_; rintro e w4 ⟨rfl, g4⟩)
 have h4 := h3.gr g4
 clear QN
 obtain ⟨c4, f4⟩ := And.intro h4.c4 h4.f4
 rw [hb] at c4
 have hle := h4.len
 rw [ht] at hle
 simp at hle
 have hm : (m : Int) < 4096 := by omega
 have hwr := wrap_in ((m : Int) + 1) (by omega) (by omega)
 clear hle
 go_upto_region 5 with (fail)
 obtain ⟨c1, f1⟩ := And.intro h4.c1 h4.f1
 clear c4 f4
 go_upto_region 6 with (fail)
 have h5 := h4.next ht
 have x5 : GX R w (w4.setCell ⟨R, 1, none⟩ (.int .i64 ((m : Int) + 1))) := GX.setCell (p := ⟨R, 1, none⟩) (x.trans (GX.of_gr g4)) (.inl rfl) _
 have k5 := Pc.In.same (Same.gx (GX.setCell (p := ⟨R, 1, none⟩) (GX.of_gr (R := R) g4) (.inl rfl) (.int .i64 ((m : Int) + 1))) (Nat.le_refl _) (by omega)) _ _ k
 have k6 := Pc.In.wide (Nat.le_refl _) (GX.setCell (p := ⟨R, 1, none⟩) (GX.of_gr (R := R) g4) (.inl rfl) (.int .i64 ((m : Int) + 1))).size _ _ k5
 clear c1 f1 h4 g4 h3 x k k5 hwr
 generalize (w4.setCell ⟨R, 1, none⟩ (.int .i64 ((m : Int) + 1))) = w6 at h5 x5 k6 ⊢
 have Q7 := fun o => takes_no (h5.gr (Gr.alloc (Gr.refl w6) o)) hs 63 (by decide) hz
 go_wp2_with (go_at_call 109; refine (Q7 _).mono ?_; rintro e w8 ⟨rfl, g8⟩; have x8 := GX.of_gr (R := R) g8; have h8 := (h5.gr (Gr.alloc (Gr.refl w6) _)).gr g8)
 go_ret
 exact RetP.rep _ 63 false hR x5 k6 x8 h8

theorem piece_all {w : World} {R n : Nat} {s : ByteArray} {q : Rs} (Wf : Rs → Pc × Rs) (h : Rdr w R s n q) (hs : (s.size : Int) ≤ 4096) {c : UInt8} {r : List UInt8} (hq : q.rest = c :: r)
  (HG : ∀ W, Rdr W R s (n + 1) { q with rest := r } → Calls Tryz.prog 152 #[.pointer (some ⟨R, 0, none⟩)] W (RetP R s W (groupS Wf { q with rest := r }).1 (groupS Wf { q with rest := r }).2)) :
  Calls Tryz.prog 136 #[.pointer (some ⟨R, 0, none⟩)] w (RetP R s w (pieceS Wf q).1 (pieceS Wf q).2) := by
 have HA := atom_all Wf h hs hq HG
 unfold pieceS
 generalize atomS Wf q = T at HA ⊢
 obtain ⟨A, t⟩ := T
 simp only at HA ⊢
 rcases Bool.eq_false_or_eq_true t.bad with hb | hb
 ·
  rw [hb]; exact piece_bad h hs A t HA hb
 ·
  match e : t.rest with
  | [] => rw [hb]; exact piece_end h hs A t HA hb e
  | d :: u =>
   simp only
   have hbt : (bif t.bad then (A, t) else bif repC d.toNat then (Pc.rep d.toNat (headIs 63 u) A, { t with rest := bif headIs 63 u then u.drop 1 else u }) else (A, t)) = bif repC d.toNat then (Pc.rep d.toNat (headIs 63 u) A, { t with rest := bif headIs 63 u then u.drop 1 else u }) else (A, t) := by rw [hb]; rfl
   rw [hbt]
   by_cases h42 : d.toNat = 42
   ·
    rw [h42]
    cases hz : headIs 63 u
    ·
     exact piece_rep42false h hs A t HA hb e h42 hz
    ·
     exact piece_rep42true h hs A t HA hb e h42 hz
   by_cases h43 : d.toNat = 43
   ·
    rw [h43]
    cases hz : headIs 63 u
    ·
     exact piece_rep43false h hs A t HA hb e h43 hz
    ·
     exact piece_rep43true h hs A t HA hb e h43 hz
   by_cases h63 : d.toNat = 63
   ·
    rw [h63]
    cases hz : headIs 63 u
    ·
     exact piece_rep63false h hs A t HA hb e h63 hz
    ·
     exact piece_rep63true h hs A t HA hb e h63 hz
   have hst : repC d.toNat = false := by
    unfold repC
    rw [beq_eq_false_iff_ne.2 h42, beq_eq_false_iff_ne.2 h43, beq_eq_false_iff_ne.2 h63]
    rfl
   rw [hst]
   exact piece_no h hs A t HA hb e ⟨h42, h43, h63⟩
end Go.Proofs.YtjapddfnpmlifaaGreatDoor
