/- atom of the reference's reader. · Laid trees of the reader: their places are small; a cut tree, moved, is laid anew. No program in sight. · group of the reference's reader. -/
import Derived.Test.YtpcmdijgepbilaaRfClsS
import Derived.Test.YtpcmdijgepbilaaRegR
import Derived.Deep.Light
import Derived.Deep.Cut
import Derived.Deep.CutRange
namespace Go.Proofs.Ytpcmdijgepbilaa
set_option linter.unusedVariables false
set_option linter.unusedSimpArgs false
open Go.RowKit

/-- the error that the reference holds. -/
def errE (q : Rs) : Nat := bif q.over then 12 else bif q.bad then 8 else 0
/-- the reference's reader stands where the text's reader q stands. -/
def RfS (w : World) (R : Nat) (s : ByteArray) (n : Nat) (q : Rs) (A : Option Addr) (code : List In) : Prop :=
  RfW w R s n q.deep 0 q.groups A code ∧ s.data.toList.drop n = q.rest ∧ n ≤ s.size
/-- a reader of the reference has laid p and left q', or an error. -/
def RetR (w : World) (R : Nat) (s : ByteArray) (q : Rs) (A : Option Addr) (code : List In) (p : Pc) (q' : Rs) (x : Ending) (w' : World) : Prop :=
  x = .returned (.tuple #[]) ∧ ∃ n' d' g' A' code', RfW w' R s n' d' (errE q') g' A' code' ∧ WX R w (blk A) w' (blk A') ∧
    (code.length ≤ code'.length ∧ code'.length + 2 * (bif q'.bad then 0 else q'.rest.length) ≤ code.length + 2 * q.rest.length) ∧
    (q'.bad = false → q'.over = false ∧ code' = code ++ p.lay code.length ∧ s.data.toList.drop n' = q'.rest ∧ n' ≤ s.size ∧ d' = q'.deep ∧ g' = q'.groups)
theorem RfS.gr {w w' : World} {R n : Nat} {s : ByteArray} {q : Rs} {A : Option Addr} {code : List In} (h : RfS w R s n q A code) (g : Gr w w') : RfS w' R s n q A code := ⟨h.1.gr g, h.2⟩
theorem spc_stop (c : Nat) (h1 : c ≠ 40) (h2 : c ≠ 94) (h3 : c ≠ 36) (h4 : c ≠ 46) (h5 : c ≠ 91) (h6 : c ≠ 92) : spcB c = stopC c := by
  have e : ∀ k : Nat, c ≠ k → (c == k) = false := fun k h => beq_eq_false_iff_ne.2 h
  have e' : ∀ k : Nat, c ≠ k → (k == c) = false := fun k h => beq_eq_false_iff_ne.2 (Ne.symm h)
  rw [Bool.eq_iff_iff]
  simp only [spcB, spcL, stopC, List.any_cons, List.any_nil, Bool.or_eq_true, beq_iff_eq, Bool.or_false]
  simp
  omega

theorem WX.of_gx {B : Nat} {w w' : World} (h : GX B w w') (g : Option Nat) : WX B w g w' g := ⟨h.os, h.tape, h.output, h.size, fun k hk hn _ => h.block k hk hn, fun _ h => .inl h⟩

set_option maxRecDepth 100000 in
set_option maxHeartbeats 6400000 in
theorem ratom_group {w : World} {R n : Nat} {s : ByteArray} {A : Option Addr} {code : List In} {q : Rs} (h : RfS w R s n q A code) (hs : (s.size : Int) ≤ 4096) {c : UInt8} {r : List UInt8} (hq : q.rest = c :: r) (h40 : c.toNat = 40) (hqb : q.over = false) (P : Pc) (t : Rs) (HG : ∀ W, RfS W R s n q A code → Calls Try.prog 41 #[.pointer (some ⟨R, 0, none⟩)] W (RetR W R s q A code P t)) : Calls Try.prog 33 #[.pointer (some ⟨R, 0, none⟩)] w (RetR w R s q A code (P) (t)) := by
  have HG' := Lib.hid HG
  have h0 := h
  clear HG
  obtain ⟨h, hd, -⟩ := h
  have hl0 : n < s.data.toList.length := by
    rcases Nat.lt_or_ge n s.data.toList.length with h1 | h1
    · exact h1
    · rw [List.drop_eq_nil_of_le h1, hq] at hd; cases hd
  have hn : n < s.size := by simpa using hl0
  rw [List.drop_eq_getElem_cons hl0, hq] at hd
  have hcr : s[n] = c ∧ s.data.toList.drop (n + 1) = r := by injection hd with a b; exact ⟨a, b⟩
  obtain ⟨rfl, hdr⟩ := hcr
  have hn3 : (n : Int) < (s.size : Int) := by omega
  have hn4 : (n : Int) < 4096 := by omega
  clear hd hl0
  have hq40 : ((s[n].toNat : Int) == 40) = true := by simp; omega
  go_enter Try.func33, Try.ntmps33
  go_upto_region 0 with (fail)
  have hz : R < w.heap.size := h.lt
  obtain ⟨cc1, hc1⟩ := id h
  obtain ⟨c0, c1⟩ := And.intro hc1.c0 hc1.c1
  clear hc1
  refine region_Q (by kernel_rfl) (by kernel_rfl) ?_
  refine q_val (v := ?qv56) (by rfl) (fun W hW => ?qh56) ?qr56
  case qh56 =>
    go_simp
    rfl
  simp only [Act.put, List.setIfInBounds_toArray, List.set_cons_zero, List.set_cons_succ]
  refine q_val (v := ?qv57) (by rfl) (fun W hW => ?qh57) ?qr57
  case qh57 =>
    go_simp
    rfl
  simp only [Act.put, List.setIfInBounds_toArray, List.set_cons_zero, List.set_cons_succ]
  refine q_val (v := ?qv58) (by rfl) (fun W hW => ?qh58) ?qr58
  case qh58 =>
    go_simp
    rfl
  simp only [Act.put, List.setIfInBounds_toArray, List.set_cons_zero, List.set_cons_succ]
  refine q_val (v := ?qv59) (by rfl) (fun W hW => ?qh59) ?qr59
  case qh59 =>
    have q0 := (Below.cell hW (p := ⟨R, 0, none⟩) hz).trans c0
    go_simp
    rfl
  simp only [Act.put, List.setIfInBounds_toArray, List.set_cons_zero, List.set_cons_succ]
  refine q_val (v := ?qv60) (by rfl) (fun W hW => ?qh60) ?qr60
  case qh60 =>
    go_simp
    rfl
  simp only [Act.put, List.setIfInBounds_toArray, List.set_cons_zero, List.set_cons_succ]
  refine q_val (v := ?qv61) (by rfl) (fun W hW => ?qh61) ?qr61
  case qh61 =>
    go_simp
    rfl
  simp only [Act.put, List.setIfInBounds_toArray, List.set_cons_zero, List.set_cons_succ]
  refine q_val (v := ?qv62) (by rfl) (fun W hW => ?qh62) ?qr62
  case qh62 =>
    go_simp
    rfl
  simp only [Act.put, List.setIfInBounds_toArray, List.set_cons_zero, List.set_cons_succ]
  refine q_val (v := ?qv63) (by rfl) (fun W hW => ?qh63) ?qr63
  case qh63 =>
    have q1 := (Below.cell hW (p := ⟨R, 1, none⟩) hz).trans c1
    go_simp
    rfl
  simp only [Act.put, List.setIfInBounds_toArray, List.set_cons_zero, List.set_cons_succ]
  refine q_val (v := ?qv64) (by rfl) (fun W hW => ?qh64) ?qr64
  case qh64 =>
    go_simp
    rfl
  simp only [Act.put, List.setIfInBounds_toArray, List.set_cons_zero, List.set_cons_succ]
  refine q_val (v := ?qv65) (by rfl) (fun W hW => ?qh65) ?qr65
  case qh65 =>
    go_simp
    rfl
  simp only [Act.put, List.setIfInBounds_toArray, List.set_cons_zero, List.set_cons_succ]
  refine wpQuiet_nil ?_
  intro w2 hw2
  have h2 := h.gr hw2
  clear c0 c1 hz
  have h5 := h0.gr hw2
  have x5 := WX.gr (B := R) (blk A) hw2
  clear h h0 h2 hw2
  have h6 := Lib.hid h5
  clear h5
  go_wp2_with (go_at_call 41; refine (HG'.out _ h6.out).mono ?_; rintro x w9 ⟨rfl, n', d', g', A', code', k1, k2, k3⟩)
  go_end0
  exact ⟨rfl, n', d', g', A', code', k1, x5.trans k2, k3⟩

set_option maxRecDepth 100000 in
set_option maxHeartbeats 6400000 in
theorem ratom_begin {w : World} {R n : Nat} {s : ByteArray} {A : Option Addr} {code : List In} {q : Rs} (h : RfS w R s n q A code) (hs : (s.size : Int) ≤ 4096) {c : UInt8} {r : List UInt8} (hq : q.rest = c :: r) (h94 : c.toNat = 94) (hqb : q.over = false ∧ q.bad = false) (hb : code.length ≤ 4000) : Calls Try.prog 33 #[.pointer (some ⟨R, 0, none⟩)] w (RetR w R s q A code (.leaf 5 []) ({ q with rest := r })) := by
  obtain ⟨h, hd, -⟩ := h
  have hl0 : n < s.data.toList.length := by
    rcases Nat.lt_or_ge n s.data.toList.length with h1 | h1
    · exact h1
    · rw [List.drop_eq_nil_of_le h1, hq] at hd; cases hd
  have hn : n < s.size := by simpa using hl0
  rw [List.drop_eq_getElem_cons hl0, hq] at hd
  have hcr : s[n] = c ∧ s.data.toList.drop (n + 1) = r := by injection hd with a b; exact ⟨a, b⟩
  obtain ⟨rfl, hdr⟩ := hcr
  have hn3 : (n : Int) < (s.size : Int) := by omega
  have hn4 : (n : Int) < 4096 := by omega
  clear hd hl0
  have hq40 : ((s[n].toNat : Int) == 40) = false := by simp; omega
  have hq94 : ((s[n].toNat : Int) == 94) = true := by simp; omega
  go_enter Try.func33, Try.ntmps33
  go_upto_region 0 with (fail)
  have hz : R < w.heap.size := h.lt
  obtain ⟨cc1, hc1⟩ := id h
  obtain ⟨c0, c1⟩ := And.intro hc1.c0 hc1.c1
  clear hc1
  refine region_Q (by kernel_rfl) (by kernel_rfl) ?_
  refine q_val (v := ?qv56) (by rfl) (fun W hW => ?qh56) ?qr56
  case qh56 =>
    go_simp
    rfl
  simp only [Act.put, List.setIfInBounds_toArray, List.set_cons_zero, List.set_cons_succ]
  refine q_val (v := ?qv57) (by rfl) (fun W hW => ?qh57) ?qr57
  case qh57 =>
    go_simp
    rfl
  simp only [Act.put, List.setIfInBounds_toArray, List.set_cons_zero, List.set_cons_succ]
  refine q_val (v := ?qv58) (by rfl) (fun W hW => ?qh58) ?qr58
  case qh58 =>
    go_simp
    rfl
  simp only [Act.put, List.setIfInBounds_toArray, List.set_cons_zero, List.set_cons_succ]
  refine q_val (v := ?qv59) (by rfl) (fun W hW => ?qh59) ?qr59
  case qh59 =>
    have q0 := (Below.cell hW (p := ⟨R, 0, none⟩) hz).trans c0
    go_simp
    rfl
  simp only [Act.put, List.setIfInBounds_toArray, List.set_cons_zero, List.set_cons_succ]
  refine q_val (v := ?qv60) (by rfl) (fun W hW => ?qh60) ?qr60
  case qh60 =>
    go_simp
    rfl
  simp only [Act.put, List.setIfInBounds_toArray, List.set_cons_zero, List.set_cons_succ]
  refine q_val (v := ?qv61) (by rfl) (fun W hW => ?qh61) ?qr61
  case qh61 =>
    go_simp
    rfl
  simp only [Act.put, List.setIfInBounds_toArray, List.set_cons_zero, List.set_cons_succ]
  refine q_val (v := ?qv62) (by rfl) (fun W hW => ?qh62) ?qr62
  case qh62 =>
    go_simp
    rfl
  simp only [Act.put, List.setIfInBounds_toArray, List.set_cons_zero, List.set_cons_succ]
  refine q_val (v := ?qv63) (by rfl) (fun W hW => ?qh63) ?qr63
  case qh63 =>
    have q1 := (Below.cell hW (p := ⟨R, 1, none⟩) hz).trans c1
    go_simp
    rfl
  simp only [Act.put, List.setIfInBounds_toArray, List.set_cons_zero, List.set_cons_succ]
  refine q_val (v := ?qv64) (by rfl) (fun W hW => ?qh64) ?qr64
  case qh64 =>
    go_simp
    rfl
  simp only [Act.put, List.setIfInBounds_toArray, List.set_cons_zero, List.set_cons_succ]
  refine q_val (v := ?qv65) (by rfl) (fun W hW => ?qh65) ?qr65
  case qh65 =>
    go_simp
    rfl
  simp only [Act.put, List.setIfInBounds_toArray, List.set_cons_zero, List.set_cons_succ]
  refine wpQuiet_nil ?_
  intro w2 hw2
  have h2 := h.gr hw2
  clear c0 c1 hz
  obtain ⟨cc2, hc2⟩ := id h2
  obtain ⟨c1, f1⟩ := And.intro hc2.c1 hc2.f1
  clear hc2
  go_upto_region 5 with (fail)
  have h3 := h2.setAt (n + 1)
  rw [show ((n + 1 : Nat) : Int) = (n : Int) + 1 by omega] at h3
  have x3 : WX R w (blk A) (w2.setCell ⟨R, 1, none⟩ (.int .i64 ((n : Int) + 1))) (blk A) := (WX.gr (blk A) hw2).set (p := ⟨R, 1, none⟩) (.inl rfl) _
  clear h2 c1 f1 hw2 h
  generalize w2.setCell ⟨R, 1, none⟩ (.int .i64 ((n : Int) + 1)) = w3 at h3 x3 ⊢
  have HL := Lib.hid (rlay_any h3 5 0 0 [] hb)
  clear hb
  go_wp2_with (go_at_call 16; refine HL.out.mono ?_; rintro x w9 ⟨rfl, A', k1, k2⟩)
  go_end0
  refine ⟨rfl, n + 1, _, _, A', _, by simp only [errE, hqb.1, hqb.2, cond_false]; exact k1, x3.trans k2, ⟨by simp [Pc.lay], by simp [hq, hqb.2, Pc.lay]; omega⟩, fun _ => ⟨hqb.1, rfl, hdr, by omega, rfl, rfl⟩⟩

set_option maxRecDepth 100000 in
set_option maxHeartbeats 6400000 in
theorem ratom_end {w : World} {R n : Nat} {s : ByteArray} {A : Option Addr} {code : List In} {q : Rs} (h : RfS w R s n q A code) (hs : (s.size : Int) ≤ 4096) {c : UInt8} {r : List UInt8} (hq : q.rest = c :: r) (h36 : c.toNat = 36) (hqb : q.over = false ∧ q.bad = false) (hb : code.length ≤ 4000) : Calls Try.prog 33 #[.pointer (some ⟨R, 0, none⟩)] w (RetR w R s q A code (.leaf 6 []) ({ q with rest := r })) := by
  obtain ⟨h, hd, -⟩ := h
  have hl0 : n < s.data.toList.length := by
    rcases Nat.lt_or_ge n s.data.toList.length with h1 | h1
    · exact h1
    · rw [List.drop_eq_nil_of_le h1, hq] at hd; cases hd
  have hn : n < s.size := by simpa using hl0
  rw [List.drop_eq_getElem_cons hl0, hq] at hd
  have hcr : s[n] = c ∧ s.data.toList.drop (n + 1) = r := by injection hd with a b; exact ⟨a, b⟩
  obtain ⟨rfl, hdr⟩ := hcr
  have hn3 : (n : Int) < (s.size : Int) := by omega
  have hn4 : (n : Int) < 4096 := by omega
  clear hd hl0
  have hq40 : ((s[n].toNat : Int) == 40) = false := by simp; omega
  have hq94 : ((s[n].toNat : Int) == 94) = false := by simp; omega
  have hq36 : ((s[n].toNat : Int) == 36) = true := by simp; omega
  go_enter Try.func33, Try.ntmps33
  go_upto_region 0 with (fail)
  have hz : R < w.heap.size := h.lt
  obtain ⟨cc1, hc1⟩ := id h
  obtain ⟨c0, c1⟩ := And.intro hc1.c0 hc1.c1
  clear hc1
  refine region_Q (by kernel_rfl) (by kernel_rfl) ?_
  refine q_val (v := ?qv56) (by rfl) (fun W hW => ?qh56) ?qr56
  case qh56 =>
    go_simp
    rfl
  simp only [Act.put, List.setIfInBounds_toArray, List.set_cons_zero, List.set_cons_succ]
  refine q_val (v := ?qv57) (by rfl) (fun W hW => ?qh57) ?qr57
  case qh57 =>
    go_simp
    rfl
  simp only [Act.put, List.setIfInBounds_toArray, List.set_cons_zero, List.set_cons_succ]
  refine q_val (v := ?qv58) (by rfl) (fun W hW => ?qh58) ?qr58
  case qh58 =>
    go_simp
    rfl
  simp only [Act.put, List.setIfInBounds_toArray, List.set_cons_zero, List.set_cons_succ]
  refine q_val (v := ?qv59) (by rfl) (fun W hW => ?qh59) ?qr59
  case qh59 =>
    have q0 := (Below.cell hW (p := ⟨R, 0, none⟩) hz).trans c0
    go_simp
    rfl
  simp only [Act.put, List.setIfInBounds_toArray, List.set_cons_zero, List.set_cons_succ]
  refine q_val (v := ?qv60) (by rfl) (fun W hW => ?qh60) ?qr60
  case qh60 =>
    go_simp
    rfl
  simp only [Act.put, List.setIfInBounds_toArray, List.set_cons_zero, List.set_cons_succ]
  refine q_val (v := ?qv61) (by rfl) (fun W hW => ?qh61) ?qr61
  case qh61 =>
    go_simp
    rfl
  simp only [Act.put, List.setIfInBounds_toArray, List.set_cons_zero, List.set_cons_succ]
  refine q_val (v := ?qv62) (by rfl) (fun W hW => ?qh62) ?qr62
  case qh62 =>
    go_simp
    rfl
  simp only [Act.put, List.setIfInBounds_toArray, List.set_cons_zero, List.set_cons_succ]
  refine q_val (v := ?qv63) (by rfl) (fun W hW => ?qh63) ?qr63
  case qh63 =>
    have q1 := (Below.cell hW (p := ⟨R, 1, none⟩) hz).trans c1
    go_simp
    rfl
  simp only [Act.put, List.setIfInBounds_toArray, List.set_cons_zero, List.set_cons_succ]
  refine q_val (v := ?qv64) (by rfl) (fun W hW => ?qh64) ?qr64
  case qh64 =>
    go_simp
    rfl
  simp only [Act.put, List.setIfInBounds_toArray, List.set_cons_zero, List.set_cons_succ]
  refine q_val (v := ?qv65) (by rfl) (fun W hW => ?qh65) ?qr65
  case qh65 =>
    go_simp
    rfl
  simp only [Act.put, List.setIfInBounds_toArray, List.set_cons_zero, List.set_cons_succ]
  refine wpQuiet_nil ?_
  intro w2 hw2
  have h2 := h.gr hw2
  clear c0 c1 hz
  obtain ⟨cc2, hc2⟩ := id h2
  obtain ⟨c1, f1⟩ := And.intro hc2.c1 hc2.f1
  clear hc2
  go_upto_region 8 with (fail)
  have h3 := h2.setAt (n + 1)
  rw [show ((n + 1 : Nat) : Int) = (n : Int) + 1 by omega] at h3
  have x3 : WX R w (blk A) (w2.setCell ⟨R, 1, none⟩ (.int .i64 ((n : Int) + 1))) (blk A) := (WX.gr (blk A) hw2).set (p := ⟨R, 1, none⟩) (.inl rfl) _
  clear h2 c1 f1 hw2 h
  generalize w2.setCell ⟨R, 1, none⟩ (.int .i64 ((n : Int) + 1)) = w3 at h3 x3 ⊢
  have HL := Lib.hid (rlay_any h3 6 0 0 [] hb)
  clear hb
  go_wp2_with (go_at_call 16; refine HL.out.mono ?_; rintro x w9 ⟨rfl, A', k1, k2⟩)
  go_end0
  refine ⟨rfl, n + 1, _, _, A', _, by simp only [errE, hqb.1, hqb.2, cond_false]; exact k1, x3.trans k2, ⟨by simp [Pc.lay], by simp [hq, hqb.2, Pc.lay]; omega⟩, fun _ => ⟨hqb.1, rfl, hdr, by omega, rfl, rfl⟩⟩

set_option maxRecDepth 100000 in
set_option maxHeartbeats 6400000 in
theorem ratom_none {w : World} {R n : Nat} {s : ByteArray} {A : Option Addr} {code : List In} {q : Rs} (h : RfS w R s n q A code) (hs : (s.size : Int) ≤ 4096) {c : UInt8} {r : List UInt8} (hq : q.rest = c :: r) (h40 : c.toNat ≠ 40) (h94 : c.toNat ≠ 94) (h36 : c.toNat ≠ 36) (hqb : q.over = false ∧ q.bad = false) {t : List UInt8} (hT : bytesS c.toNat r = (none, t)) : Calls Try.prog 33 #[.pointer (some ⟨R, 0, none⟩)] w (RetR w R s q A code ((setS q (none, t)).1) ((setS q (none, t)).2)) := by
  obtain ⟨hz0, hsz0⟩ := zero_of_info info_arr
  obtain ⟨h, hd, -⟩ := h
  have hl0 : n < s.data.toList.length := by
    rcases Nat.lt_or_ge n s.data.toList.length with h1 | h1
    · exact h1
    · rw [List.drop_eq_nil_of_le h1, hq] at hd; cases hd
  have hn : n < s.size := by simpa using hl0
  rw [List.drop_eq_getElem_cons hl0, hq] at hd
  have hcr : s[n] = c ∧ s.data.toList.drop (n + 1) = r := by injection hd with a b; exact ⟨a, b⟩
  obtain ⟨rfl, hdr⟩ := hcr
  have hn3 : (n : Int) < (s.size : Int) := by omega
  have hn4 : (n : Int) < 4096 := by omega
  clear hd hl0
  have hq40 : ((s[n].toNat : Int) == 40) = false := by simp; omega
  have hq94 : ((s[n].toNat : Int) == 94) = false := by simp; omega
  have hq36 : ((s[n].toNat : Int) == 36) = false := by simp; omega
  go_enter Try.func33, Try.ntmps33
  go_upto_region 0 with (fail)
  have hz : R < w.heap.size := h.lt
  obtain ⟨cc1, hc1⟩ := id h
  obtain ⟨c0, c1⟩ := And.intro hc1.c0 hc1.c1
  clear hc1
  refine region_Q (by kernel_rfl) (by kernel_rfl) ?_
  refine q_val (v := ?qv56) (by rfl) (fun W hW => ?qh56) ?qr56
  case qh56 =>
    go_simp
    rfl
  simp only [Act.put, List.setIfInBounds_toArray, List.set_cons_zero, List.set_cons_succ]
  refine q_val (v := ?qv57) (by rfl) (fun W hW => ?qh57) ?qr57
  case qh57 =>
    go_simp
    rfl
  simp only [Act.put, List.setIfInBounds_toArray, List.set_cons_zero, List.set_cons_succ]
  refine q_val (v := ?qv58) (by rfl) (fun W hW => ?qh58) ?qr58
  case qh58 =>
    go_simp
    rfl
  simp only [Act.put, List.setIfInBounds_toArray, List.set_cons_zero, List.set_cons_succ]
  refine q_val (v := ?qv59) (by rfl) (fun W hW => ?qh59) ?qr59
  case qh59 =>
    have q0 := (Below.cell hW (p := ⟨R, 0, none⟩) hz).trans c0
    go_simp
    rfl
  simp only [Act.put, List.setIfInBounds_toArray, List.set_cons_zero, List.set_cons_succ]
  refine q_val (v := ?qv60) (by rfl) (fun W hW => ?qh60) ?qr60
  case qh60 =>
    go_simp
    rfl
  simp only [Act.put, List.setIfInBounds_toArray, List.set_cons_zero, List.set_cons_succ]
  refine q_val (v := ?qv61) (by rfl) (fun W hW => ?qh61) ?qr61
  case qh61 =>
    go_simp
    rfl
  simp only [Act.put, List.setIfInBounds_toArray, List.set_cons_zero, List.set_cons_succ]
  refine q_val (v := ?qv62) (by rfl) (fun W hW => ?qh62) ?qr62
  case qh62 =>
    go_simp
    rfl
  simp only [Act.put, List.setIfInBounds_toArray, List.set_cons_zero, List.set_cons_succ]
  refine q_val (v := ?qv63) (by rfl) (fun W hW => ?qh63) ?qr63
  case qh63 =>
    have q1 := (Below.cell hW (p := ⟨R, 1, none⟩) hz).trans c1
    go_simp
    rfl
  simp only [Act.put, List.setIfInBounds_toArray, List.set_cons_zero, List.set_cons_succ]
  refine q_val (v := ?qv64) (by rfl) (fun W hW => ?qh64) ?qr64
  case qh64 =>
    go_simp
    rfl
  simp only [Act.put, List.setIfInBounds_toArray, List.set_cons_zero, List.set_cons_succ]
  refine q_val (v := ?qv65) (by rfl) (fun W hW => ?qh65) ?qr65
  case qh65 =>
    go_simp
    rfl
  simp only [Act.put, List.setIfInBounds_toArray, List.set_cons_zero, List.set_cons_succ]
  refine wpQuiet_nil ?_
  intro w2 hw2
  have h2 := h.gr hw2
  clear c0 c1 hz
  have HS := Lib.hid (fun (W : World) (hW : RfW W R s n q.deep 0 q.groups A code) => rset_any hW hs hn)
  rw [hdr, hT] at HS
  clear hT
  have hrow := fun k hk => (h2.row k hk).2
  go_upto_region 11 with (first
    | (go_at_call 42; refine (HS.out _ h2).mono ?_; rintro x w5 ⟨f, n', rfl, h5, x5, hn', hF⟩; have y5 : WX R w (blk A) w5 (blk A) := (WX.gr (blk A) hw2).trans (WX.of_gx x5 _); have HFF := Lib.hid hF; clear hF)
    | (refine wpList_store_row rfl 72 (.tmp 3) (.tmp 48) rfl w5.heap.size (bsA f) rfl rfl _ _ (SetQ.new w5 noB) (size_bsQ _) (by simp only [bsA_size]) (bsA_one _) ?_; have g6 : Gr w5 ((w5.alloc (.cells (bsA noB) 72)).setRow w5.heap.size (bsA f)) := Gr.setRow (Gr.alloc (Gr.refl w5) (.cells (bsA noB) 72)) (g := w5.heap.size) (Nat.le_refl _) (bsA f); have h6 := h5.gr g6; have y6 := y5.trans (WX.gr (blk A) g6); have hX6 : SetQ ((w5.alloc (.cells (bsA noB) 72)).setRow w5.heap.size (bsA f)) w5.heap.size f := SetQ.row (SetQ.new w5 noB)))
  clear x5 h5 y5 g6 h2 h hw2
  generalize (w5.alloc (.cells (bsA noB) 72)).setRow w5.heap.size (bsA f) = w6 at h6 hX6 y6 ⊢
  generalize w5.heap.size = gx at hX6 ⊢
  have HB := Lib.hid (bad_new h6 8 rfl)
  have h7 := h6.setErr 8
  have y7 := y6.set (p := ⟨R, 3, none⟩) (.inl rfl) (.int .i64 8)
  go_wp2_with (go_at_call 18; refine HB.out.mono ?_; rintro x w9 ⟨rfl, rfl⟩)
  go_end0
  exact ⟨rfl, n', _, _, A, _, by simp only [errE, setS, failS, hqb.1, cond_false, cond_true]; exact h7, y7, ⟨Nat.le_refl _, by simp [setS, failS]⟩, fun h => by simp [setS, failS] at h⟩

set_option maxRecDepth 100000 in
set_option maxHeartbeats 6400000 in
theorem ratom_some {w : World} {R n : Nat} {s : ByteArray} {A : Option Addr} {code : List In} {q : Rs} (h : RfS w R s n q A code) (hs : (s.size : Int) ≤ 4096) {c : UInt8} {r : List UInt8} (hq : q.rest = c :: r) (h40 : c.toNat ≠ 40) (h94 : c.toNat ≠ 94) (h36 : c.toNat ≠ 36) (hqb : q.over = false ∧ q.bad = false) (hb : code.length ≤ 4000) {F : Bs} {t : List UInt8} (hT : bytesS c.toNat r = (some F, t)) (ht : t.length ≤ r.length) : Calls Try.prog 33 #[.pointer (some ⟨R, 0, none⟩)] w (RetR w R s q A code ((setS q (some F, t)).1) ((setS q (some F, t)).2)) := by
  obtain ⟨hz0, hsz0⟩ := zero_of_info info_arr
  obtain ⟨h, hd, -⟩ := h
  have hl0 : n < s.data.toList.length := by
    rcases Nat.lt_or_ge n s.data.toList.length with h1 | h1
    · exact h1
    · rw [List.drop_eq_nil_of_le h1, hq] at hd; cases hd
  have hn : n < s.size := by simpa using hl0
  rw [List.drop_eq_getElem_cons hl0, hq] at hd
  have hcr : s[n] = c ∧ s.data.toList.drop (n + 1) = r := by injection hd with a b; exact ⟨a, b⟩
  obtain ⟨rfl, hdr⟩ := hcr
  have hn3 : (n : Int) < (s.size : Int) := by omega
  have hn4 : (n : Int) < 4096 := by omega
  clear hd hl0
  have hq40 : ((s[n].toNat : Int) == 40) = false := by simp; omega
  have hq94 : ((s[n].toNat : Int) == 94) = false := by simp; omega
  have hq36 : ((s[n].toNat : Int) == 36) = false := by simp; omega
  go_enter Try.func33, Try.ntmps33
  go_upto_region 0 with (fail)
  have hz : R < w.heap.size := h.lt
  obtain ⟨cc1, hc1⟩ := id h
  obtain ⟨c0, c1⟩ := And.intro hc1.c0 hc1.c1
  clear hc1
  refine region_Q (by kernel_rfl) (by kernel_rfl) ?_
  refine q_val (v := ?qv56) (by rfl) (fun W hW => ?qh56) ?qr56
  case qh56 =>
    go_simp
    rfl
  simp only [Act.put, List.setIfInBounds_toArray, List.set_cons_zero, List.set_cons_succ]
  refine q_val (v := ?qv57) (by rfl) (fun W hW => ?qh57) ?qr57
  case qh57 =>
    go_simp
    rfl
  simp only [Act.put, List.setIfInBounds_toArray, List.set_cons_zero, List.set_cons_succ]
  refine q_val (v := ?qv58) (by rfl) (fun W hW => ?qh58) ?qr58
  case qh58 =>
    go_simp
    rfl
  simp only [Act.put, List.setIfInBounds_toArray, List.set_cons_zero, List.set_cons_succ]
  refine q_val (v := ?qv59) (by rfl) (fun W hW => ?qh59) ?qr59
  case qh59 =>
    have q0 := (Below.cell hW (p := ⟨R, 0, none⟩) hz).trans c0
    go_simp
    rfl
  simp only [Act.put, List.setIfInBounds_toArray, List.set_cons_zero, List.set_cons_succ]
  refine q_val (v := ?qv60) (by rfl) (fun W hW => ?qh60) ?qr60
  case qh60 =>
    go_simp
    rfl
  simp only [Act.put, List.setIfInBounds_toArray, List.set_cons_zero, List.set_cons_succ]
  refine q_val (v := ?qv61) (by rfl) (fun W hW => ?qh61) ?qr61
  case qh61 =>
    go_simp
    rfl
  simp only [Act.put, List.setIfInBounds_toArray, List.set_cons_zero, List.set_cons_succ]
  refine q_val (v := ?qv62) (by rfl) (fun W hW => ?qh62) ?qr62
  case qh62 =>
    go_simp
    rfl
  simp only [Act.put, List.setIfInBounds_toArray, List.set_cons_zero, List.set_cons_succ]
  refine q_val (v := ?qv63) (by rfl) (fun W hW => ?qh63) ?qr63
  case qh63 =>
    have q1 := (Below.cell hW (p := ⟨R, 1, none⟩) hz).trans c1
    go_simp
    rfl
  simp only [Act.put, List.setIfInBounds_toArray, List.set_cons_zero, List.set_cons_succ]
  refine q_val (v := ?qv64) (by rfl) (fun W hW => ?qh64) ?qr64
  case qh64 =>
    go_simp
    rfl
  simp only [Act.put, List.setIfInBounds_toArray, List.set_cons_zero, List.set_cons_succ]
  refine q_val (v := ?qv65) (by rfl) (fun W hW => ?qh65) ?qr65
  case qh65 =>
    go_simp
    rfl
  simp only [Act.put, List.setIfInBounds_toArray, List.set_cons_zero, List.set_cons_succ]
  refine wpQuiet_nil ?_
  intro w2 hw2
  have h2 := h.gr hw2
  clear c0 c1 hz
  have HS := Lib.hid (fun (W : World) (hW : RfW W R s n q.deep 0 q.groups A code) => rset_any hW hs hn)
  rw [hdr, hT] at HS
  clear hT
  have hrow := fun k hk => (h2.row k hk).2
  go_upto_region 12 with (first
    | (go_at_call 42; refine (HS.out _ h2).mono ?_; rintro x w5 ⟨f, n', rfl, h5, x5, hn', hF⟩; have y5 : WX R w (blk A) w5 (blk A) := (WX.gr (blk A) hw2).trans (WX.of_gx x5 _); have HFF := Lib.hid hF; clear hF)
    | (refine wpList_store_row rfl 72 (.tmp 3) (.tmp 48) rfl w5.heap.size (bsA f) rfl rfl _ _ (SetQ.new w5 noB) (size_bsQ _) (by simp only [bsA_size]) (bsA_one _) ?_; have g6 : Gr w5 ((w5.alloc (.cells (bsA noB) 72)).setRow w5.heap.size (bsA f)) := Gr.setRow (Gr.alloc (Gr.refl w5) (.cells (bsA noB) 72)) (g := w5.heap.size) (Nat.le_refl _) (bsA f); have h6 := h5.gr g6; have y6 := y5.trans (WX.gr (blk A) g6); have hX6 : SetQ ((w5.alloc (.cells (bsA noB) 72)).setRow w5.heap.size (bsA f)) w5.heap.size f := SetQ.row (SetQ.new w5 noB)))
  clear x5 h5 y5 g6 h2 h hw2
  generalize (w5.alloc (.cells (bsA noB) 72)).setRow w5.heap.size (bsA f) = w6 at h6 hX6 y6 ⊢
  generalize w5.heap.size = gx at hX6 ⊢
  obtain ⟨hfF, hdt, hn9⟩ := HFF.out F rfl
  subst hfF
  clear HFF
  have Hb := Lib.hid hb
  clear hb
  go_wp2_with (first
    | (refine wpList_load_row rfl 72 (.tmp 3) rfl (gx) rfl _ (bsA f) (0, 0) _ hX6 und_arr rfl (size_bsQ _) ?_)
    | (go_at_call 43; refine (rpairs_any f _).mono ?_; rintro x w8 ⟨rfl, g8⟩; have h8 := h6.gr g8; have y8 := y6.trans (WX.gr (blk A) g8))
    | (go_at_call 16; refine (rlay_any h8 1 0 0 (pairsS f) Hb.out).mono ?_; rintro x w9 ⟨rfl, A', k1, k2⟩))
  go_end0
  refine ⟨rfl, n', _, _, A', _, by simp only [errE, setS, hqb.1, hqb.2, cond_false]; exact k1, y8.trans k2, ⟨by simp [Pc.lay], by simp [setS, hq, hqb.2, Pc.lay]; omega⟩, fun _ => ⟨hqb.1, rfl, hdt, hn9, rfl, rfl⟩⟩

theorem bytesS_len (c : Nat) (r : List UInt8) (h : (classS r).2.length ≤ r.length) : (bytesS c r).2.length ≤ r.length := by
  unfold bytesS
  cases c == 46 <;> cases c == 91 <;> cases c == 92 <;> cases spcB c <;> simp only [cond_true, cond_false, Nat.le_refl, h, escS_len]
theorem ratom_any (Wf : Rs → Pc × Rs) {w : World} {R n : Nat} {s : ByteArray} {A : Option Addr} {code : List In} {q : Rs} (h : RfS w R s n q A code) (hs : (s.size : Int) ≤ 4096) {c : UInt8} {r : List UInt8} (hq : q.rest = c :: r) (hqb : q.over = false ∧ q.bad = false) (hb : code.length ≤ 4000) (HG : ∀ W, RfS W R s n q A code → Calls Try.prog 41 #[.pointer (some ⟨R, 0, none⟩)] W (RetR W R s q A code (groupS Wf { q with rest := r }).1 (groupS Wf { q with rest := r }).2)) : Calls Try.prog 33 #[.pointer (some ⟨R, 0, none⟩)] w (RetR w R s q A code ((atomS Wf q).1) ((atomS Wf q).2)) := by
  have e : ∀ k : Nat, c.toNat ≠ k → (c.toNat == k) = false := fun k h => beq_eq_false_iff_ne.2 h
  by_cases h40 : c.toNat = 40
  · have : atomS Wf q = groupS Wf { q with rest := r } := by simp [atomS, hq, h40]
    rw [this]
    exact ratom_group h hs hq h40 hqb.1 _ _ HG
  by_cases h94 : c.toNat = 94
  · have : atomS Wf q = (.leaf 5 [], { q with rest := r }) := by simp [atomS, hq, h94]
    rw [this]
    exact ratom_begin h hs hq h94 hqb hb
  by_cases h36 : c.toNat = 36
  · have : atomS Wf q = (.leaf 6 [], { q with rest := r }) := by simp [atomS, hq, h36]
    rw [this]
    exact ratom_end h hs hq h36 hqb hb
  have ht := bytesS_len c.toNat r (classS_len r)
  have ea : atomS Wf q = setS q (bytesS c.toNat r) ∨ (bytesS c.toNat r).1 = none ∧ (atomS Wf q) = failS { q with rest := r } := by
    simp only [atomS, hq, e 40 h40, e 94 h94, e 36 h36, cond_false]
    unfold bytesS
    by_cases h46 : c.toNat = 46
    · left; simp [h46, setS]
    by_cases h91 : c.toNat = 91
    · left; simp [h91, setS]
    by_cases h92 : c.toNat = 92
    · left; simp [h92, setS]
    simp only [e 46 h46, e 91 h91, e 92 h92, cond_false]
    rw [spc_stop _ h40 h94 h36 h46 h91 h92]
    cases stopC c.toNat
    · left; rfl
    · right; exact ⟨rfl, rfl⟩
  rcases hT : bytesS c.toNat r with ⟨_ | F, t⟩
  · have k := ratom_none h hs hq h40 h94 h36 hqb hT
    rcases ea with ea | ⟨-, ea⟩
    · rw [ea, hT]; exact k
    · rw [ea]
      refine k.mono ?_
      rintro x w' ⟨rfl, n', d', g', A', code', k1, k2, k3, k4⟩
      exact ⟨rfl, n', d', g', A', code', k1, k2, by simpa [setS, failS] using k3, fun h => by simp [failS] at h⟩
  · rw [hT] at ea ht
    rcases ea with ea | ⟨ea, -⟩
    · rw [ea]; exact ratom_some h hs hq h40 h94 h36 hqb hb hT ht
    · cases ea
end Go.Proofs.Ytpcmdijgepbilaa
namespace Go.Proofs.Ytpcmdijgepbilaa
set_option linter.unusedVariables false
set_option linter.unusedSimpArgs false
open Go.RowKit

theorem Sm.app {l m : List In} (h : Sm l) (k : Sm m) : Sm (l ++ m) := fun v hv => by
  rcases List.mem_append.1 hv with h1 | h1
  · exact h v h1
  · exact k v h1
theorem Sm.cons {v : In} {l : List In} (hv : -100000 ≤ v.x ∧ v.x ≤ 100000 ∧ -100000 ≤ v.y ∧ v.y ≤ 100000) (h : Sm l) : Sm (v :: l) := fun u hu => by
  rcases List.mem_cons.1 hu with rfl | h1
  · exact hv
  · exact h u h1
theorem Sm.nil : Sm [] := fun v hv => by cases hv
theorem split_sm (z : Bool) (x y : Int) (hx : -100000 ≤ x ∧ x ≤ 100000) (hy : -100000 ≤ y ∧ y ≤ 100000) : -100000 ≤ (splitI z x y).x ∧ (splitI z x y).x ≤ 100000 ∧ -100000 ≤ (splitI z x y).y ∧ (splitI z x y).y ≤ 100000 := by
  cases z <;> simp [splitI] <;> omega
mutual
theorem Pc.lay_sm : ∀ (p : Pc), p.ok → ∀ a : Nat, a + p.sz ≤ 50000 → Sm (p.lay a)
  | .leaf op ps, h, a, ha => by
    simp only [Pc.lay]
    exact Sm.cons ⟨by simp, by simp, by simp, by simp⟩ Sm.nil
  | .row l, h, a, ha => by simp only [Pc.ok] at h; simp only [Pc.sz] at ha; simp only [Pc.lay]; exact PcL.layR_sm l h.2 a ha
  | .ways l, h, a, ha => by
    simp only [Pc.ok] at h
    simp only [Pc.sz] at ha
    simp only [Pc.lay]
    exact PcL.layW_sm l h.2.2 a _ ha ha
  | .group g p, h, a, ha => by
    simp only [Pc.ok] at h
    simp only [Pc.lay]
    simp only [Pc.sz] at ha
    cases hg : (g == 0)
    · rw [hg] at ha
      simp only [cond_false] at ha ⊢
      have ih := Pc.lay_sm p h.2 (a + 1) (by omega)
      refine Sm.cons ?_ (Sm.app ih (Sm.cons ?_ Sm.nil)) <;> (simp only; omega)
    · rw [hg] at ha
      simp only [cond_true] at ha ⊢
      exact Pc.lay_sm p h.2 a ha
  | .rep op z p, h, a, ha => by
    simp only [Pc.ok] at h
    simp only [Pc.lay]
    simp only [Pc.sz] at ha
    cases h1 : (op == 42)
    · rw [h1] at ha
      simp only [cond_false] at ha ⊢
      cases (op == 43)
      · simp only [cond_false]
        exact Sm.cons (split_sm _ _ _ (by omega) (by omega)) (Pc.lay_sm p h.2 (a + 1) (by omega))
      · simp only [cond_true]
        exact Sm.app (Pc.lay_sm p h.2 a (by omega)) (Sm.cons (split_sm _ _ _ (by omega) (by omega)) Sm.nil)
    · rw [h1] at ha
      simp only [cond_true] at ha ⊢
      exact Sm.cons (split_sm _ _ _ (by omega) (by omega)) (Sm.app (Pc.lay_sm p h.2 (a + 1) (by omega)) (Sm.cons (by simp only; omega) Sm.nil))
theorem PcL.layR_sm : ∀ (l : PcL), l.ok → ∀ a : Nat, a + l.szR ≤ 50000 → Sm (l.layR a)
  | .nil, h, a, ha => Sm.nil
  | .cons p l, h, a, ha => by
    simp only [PcL.ok] at h
    simp only [PcL.szR] at ha
    simp only [PcL.layR]
    exact Sm.app (Pc.lay_sm p h.1 a (by omega)) (PcL.layR_sm l h.2 (a + p.sz) (by omega))
theorem PcL.layW_sm : ∀ (l : PcL), l.ok → ∀ a e : Nat, a + l.szW ≤ 50000 → e ≤ 50000 → Sm (l.layW a e)
  | .nil, h, a, e, ha, he => Sm.nil
  | .cons p .nil, h, a, e, ha, he => by
    simp only [PcL.ok] at h
    simp only [PcL.szW] at ha
    simp only [PcL.layW]
    exact Pc.lay_sm p h.1 a ha
  | .cons p (.cons q l), h, a, e, ha, he => by
    have h' := h
    simp only [PcL.ok] at h
    simp only [PcL.szW] at ha
    simp only [PcL.layW]
    have ih := PcL.layW_sm (.cons q l) (by simp only [PcL.ok]; exact h.2) (a + p.sz + 2) e (by omega) he
    exact Sm.cons (by simp only; omega) (Sm.app (Pc.lay_sm p h.1 (a + 1) (by omega)) (Sm.cons (by simp only; omega) ih))
end
theorem mvL_zero (l : List In) : mvL 0 l = l := by
  unfold mvL
  conv => rhs; rw [← List.map_id l]
  apply List.map_congr_left
  intro v _
  unfold mvI
  cases v
  simp
/-- a tree that is cut off at its own place is as laid at 0. -/
theorem cut_lay (p : Pc) (h : p.ok) (a : Nat) : mvL (-(a : Int)) (p.lay a) = p.lay 0 := by
  have := Pc.mv a p h 0
  rw [Nat.zero_add] at this
  rw [← this, mvL_mvL, show (a : Int) + -(a : Int) = 0 by omega, mvL_zero]
theorem put_lay (p : Pc) (h : p.ok) (a : Nat) : mvL (a : Int) (p.lay 0) = p.lay a := by
  have := Pc.mv a p h 0
  rwa [Nat.zero_add] at this
/-- what is laid so far: small places, and something. -/
def Cd (l : List In) : Prop := Sm l ∧ 0 < l.length
theorem Cd.lay {l : List In} (h : Cd l) {p : Pc} (hp : p.ok) (hb : l.length + p.sz ≤ 50000) : Cd (l ++ p.lay l.length) := ⟨h.1.app (Pc.lay_sm p hp _ hb), by have := h.2; simp; omega⟩
theorem Cd.snoc {l : List In} (h : Cd l) {v : In} (hv : -100000 ≤ v.x ∧ v.x ≤ 100000 ∧ -100000 ≤ v.y ∧ v.y ≤ 100000) : Cd (l ++ [v]) := ⟨h.1.app (Sm.cons hv Sm.nil), by have := h.2; simp⟩
end Go.Proofs.Ytpcmdijgepbilaa
namespace Go.Proofs.Ytpcmdijgepbilaa
set_option linter.unusedVariables false
set_option linter.unusedSimpArgs false
open Go.RowKit

theorem two_heads (s : ByteArray) (m k : Nat) (h : m + 1 < s.size) (hk : k = m + 2) : ((s.extract m k).toList == [63, 58]) = (headIs 63 (s.data.toList.drop m) && headIs 58 ((s.data.toList.drop m).drop 1)) := by
  subst hk
  have e : (s.extract m (m + 2)).toList = [s[m], s[m + 1]] := by
    first | rw [Lib.toList_data] | rw [ByteArray.toList_eq]
    apply List.ext_getElem
    · simp; omega
    · intro i h1 h2
      simp at h2
      match i, h2 with
      | 0, _ => simp; rfl
      | 1, _ => simp; rfl
  have hl0 : m < s.data.toList.length := by simp; omega
  have hl1 : m + 1 < s.data.toList.length := by simp; omega
  rw [e, List.drop_eq_getElem_cons hl0, List.drop_eq_getElem_cons hl1]
  show _ = ((s[m].toNat == 63) && (s[m + 1].toNat == 58))
  rw [Bool.eq_iff_iff]
  simp only [beq_iff_eq, List.cons.injEq, and_true, Bool.and_eq_true, ← UInt8.toNat_inj]
  exact Iff.rfl

theorem opens_two {m : Nat} {s : ByteArray} (h : (headIs 63 (s.data.toList.drop m) && headIs 58 ((s.data.toList.drop m).drop 1)) = true) : m + 1 < s.size := by
  rcases Nat.lt_or_ge (m + 1) s.size with h1 | h1
  · exact h1
  · rw [List.drop_drop, List.drop_eq_nil_of_le (i := m + 1) (by simp; omega)] at h
    simp [headIs] at h

set_option maxRecDepth 100000 in
set_option maxHeartbeats 6400000 in
theorem rgroup_any (Wf : Rs → Pc × Rs) {w : World} {R n : Nat} {s : ByteArray} {A : Option Addr} {code : List In} {q : Rs} (h : RfS w R s n q A code) (hs : (s.size : Int) ≤ 4096) {c : UInt8} {r : List UInt8} (hq : q.rest = c :: r) (hqb : q.over = false ∧ q.bad = false) (hcd : Cd code) (hb : code.length + 2 * q.rest.length ≤ 4000) (hqg : (q.groups : Int) ≤ 5000) (hqd : (q.deep : Int) ≤ 5000)
    (hWd : ∀ o : Rs, (Wf o).2.bad = false → (Wf o).2.deep = o.deep)
    (HW : ∀ W A' code' n', Cd code' → code'.length + 2 * (openS { q with rest := r, deep := q.deep + 1 }).2.rest.length ≤ 4000 → RfS W R s n' (openS { q with rest := r, deep := q.deep + 1 }).2 A' code' → Calls Try.prog 17 #[.pointer (some ⟨R, 0, none⟩)] W (RetR W R s (openS { q with rest := r, deep := q.deep + 1 }).2 A' code' (Wf (openS { q with rest := r, deep := q.deep + 1 }).2).1 (Wf (openS { q with rest := r, deep := q.deep + 1 }).2).2)) :
    Calls Try.prog 41 #[.pointer (some ⟨R, 0, none⟩)] w (RetR w R s q A code ((groupS Wf { q with rest := r }).1) ((groupS Wf { q with rest := r }).2)) := by
  obtain ⟨o, ho⟩ : ∃ o, o = openS { q with rest := r, deep := q.deep + 1 } := ⟨_, rfl⟩
  obtain ⟨T, hT⟩ : ∃ T, T = groupS Wf { q with rest := r } := ⟨_, rfl⟩
  rw [← ho] at HW
  rw [← hT]
  have hT2 : T = bif Nat.ble 64 q.deep then failS { q with rest := r, deep := q.deep + 1, over := true } else bif (Wf o.2).2.bad || !headIs 41 (Wf o.2).2.rest then failS (Wf o.2).2 else (.group o.1 (Wf o.2).1, { (Wf o.2).2 with rest := (Wf o.2).2.rest.drop 1, deep := (Wf o.2).2.deep - 1 }) := by rw [hT, ho]; rfl
  have HT := Lib.hid hT2
  have HO := Lib.hid ho
  have HWW := Lib.hid HW
  clear hT hT2 HW ho
  obtain ⟨h, hd, -⟩ := h
  have hl0 : n < s.data.toList.length := by
    rcases Nat.lt_or_ge n s.data.toList.length with h1 | h1
    · exact h1
    · rw [List.drop_eq_nil_of_le h1, hq] at hd; cases hd
  have hn : n < s.size := by simpa using hl0
  rw [List.drop_eq_getElem_cons hl0, hq] at hd
  have hdr : s.data.toList.drop (n + 1) = r := by injection hd
  have hn3 : (n : Int) < (s.size : Int) := by omega
  have hn4 : (n : Int) < 4096 := by omega
  clear hd hl0
  obtain ⟨cc2, hc2⟩ := id h
  obtain ⟨c1, f1⟩ := And.intro hc2.c1 hc2.f1
  clear hc2
  go_enter Try.func41, Try.ntmps41
  go_upto_region 1 with (fail)
  have h3 := h.setAt (n + 1)
  rw [show ((n + 1 : Nat) : Int) = (n : Int) + 1 by omega] at h3
  have x3 : WX R w (blk A) (w.setCell ⟨R, 1, none⟩ (.int .i64 ((n : Int) + 1))) (blk A) := (WX.refl R w (blk A)).set (p := ⟨R, 1, none⟩) (.inl rfl) _
  clear c1 f1 h
  generalize w.setCell ⟨R, 1, none⟩ (.int .i64 ((n : Int) + 1)) = w3 at h3 x3 ⊢
  go_upto_region 2 with (fail)
  have hz : R < w3.heap.size := h3.lt
  obtain ⟨cc1, hc1⟩ := id h3
  obtain ⟨c0, c1⟩ := And.intro hc1.c0 hc1.c1
  rw [show ((n + 1 : Nat) : Int) = (n : Int) + 1 by omega] at c1
  clear hc1
  have hw1 : IntKind.i64.wrap ((n : Int) + 1 + 1) = (n : Int) + 1 + 1 := IntWalk.i64_in _ (by omega)
  have hw2 : IntKind.i64.wrap ((n : Int) + 1 + 2) = (n : Int) + 1 + 2 := IntWalk.i64_in _ (by omega)
  have Hb := Lib.hid hb
  clear hb
  obtain ⟨B, hB⟩ : ∃ B, B = (headIs 63 r && headIs 58 (r.drop 1)) := ⟨_, rfl⟩
  have HB := Lib.hid hB
  clear hB
  go_cut [37] from 10 to 38 (fun p wx => p = .bool B ∧ Gr w3 wx)
  case first =>
    have HBx := HB.out
    rw [← hdr] at HBx
    by_cases hl : n + 1 + 1 < s.size
    · have hE := two_heads s (n + 1) ((n : Int) + 1 + 2).toNat (by omega) (by omega)
      rw [← HBx] at hE
      have hL : decide ((n : Int) + 1 + 1 < (s.size : Int)) = true := by simp; omega
      have hA1 : (0 : Int) ≤ (n : Int) + 1 := by omega
      have hA2 : (n : Int) + 1 ≤ (n : Int) + 1 + 2 := by omega
      have hA3 : (n : Int) + 1 + 2 ≤ (s.size : Int) := by omega
      clear HBx
      refine region_R (by kernel_rfl) (by kernel_rfl) ?_
      refine r_val (v := ?qv1) (by kernel_rfl) (fun W hW => ?qh1) ?qr1
      case qh1 =>
        go_light
        go_simp
        rfl
      simp only [Act.put, List.setIfInBounds_toArray, List.set_cons_zero, List.set_cons_succ]
      refine r_val (v := ?qv2) (by kernel_rfl) (fun W hW => ?qh2) ?qr2
      case qh2 =>
        go_light
        go_simp
        rfl
      simp only [Act.put, List.setIfInBounds_toArray, List.set_cons_zero, List.set_cons_succ]
      refine r_val (v := ?qv3) (by kernel_rfl) (fun W hW => ?qh3) ?qr3
      case qh3 =>
        go_light
        go_simp
        rfl
      simp only [Act.put, List.setIfInBounds_toArray, List.set_cons_zero, List.set_cons_succ]
      refine r_val (v := ?qv4) (by kernel_rfl) (fun W hW => ?qh4) ?qr4
      case qh4 =>
        have q1 := (Below.cell hW (p := ⟨R, 1, none⟩) hz).trans c1
        go_light
        go_simp
        rfl
      simp only [Act.put, List.setIfInBounds_toArray, List.set_cons_zero, List.set_cons_succ]
      refine r_val (v := ?qv5) (by kernel_rfl) (fun W hW => ?qh5) ?qr5
      case qh5 =>
        go_light
        go_simp
        rfl
      simp only [Act.put, List.setIfInBounds_toArray, List.set_cons_zero, List.set_cons_succ]
      refine r_val (v := ?qv6) (by kernel_rfl) (fun W hW => ?qh6) ?qr6
      case qh6 =>
        go_light
        go_simp
        rfl
      simp only [Act.put, List.setIfInBounds_toArray, List.set_cons_zero, List.set_cons_succ]
      refine r_val (v := ?qv7) (by kernel_rfl) (fun W hW => ?qh7) ?qr7
      case qh7 =>
        go_light
        go_simp
        rfl
      simp only [Act.put, List.setIfInBounds_toArray, List.set_cons_zero, List.set_cons_succ]
      refine r_val (v := ?qv8) (by kernel_rfl) (fun W hW => ?qh8) ?qr8
      case qh8 =>
        go_light
        go_simp
        rfl
      simp only [Act.put, List.setIfInBounds_toArray, List.set_cons_zero, List.set_cons_succ]
      refine r_val (v := ?qv9) (by kernel_rfl) (fun W hW => ?qh9) ?qr9
      case qh9 =>
        have q0 := (Below.cell hW (p := ⟨R, 0, none⟩) hz).trans c0
        go_light
        go_simp
        rfl
      simp only [Act.put, List.setIfInBounds_toArray, List.set_cons_zero, List.set_cons_succ]
      refine r_val (v := ?qv10) (by kernel_rfl) (fun W hW => ?qh10) ?qr10
      case qh10 =>
        go_light
        go_simp
        rfl
      simp only [Act.put, List.setIfInBounds_toArray, List.set_cons_zero, List.set_cons_succ]
      refine r_val (v := ?qv11) (by kernel_rfl) (fun W hW => ?qh11) ?qr11
      case qh11 =>
        go_light
        go_simp
        rfl
      simp only [Act.put, List.setIfInBounds_toArray, List.set_cons_zero, List.set_cons_succ]
      refine r_val (v := ?qv12) (by kernel_rfl) (fun W hW => ?qh12) ?qr12
      case qh12 =>
        go_light
        go_simp
        rfl
      simp only [Act.put, List.setIfInBounds_toArray, List.set_cons_zero, List.set_cons_succ]
      refine r_val (v := ?qv13) (by kernel_rfl) (fun W hW => ?qh13) ?qr13
      case qh13 =>
        go_light
        go_simp
        rfl
      simp only [Act.put, List.setIfInBounds_toArray, List.set_cons_zero, List.set_cons_succ]
      refine r_val (v := ?qv14) (by kernel_rfl) (fun W hW => ?qh14) ?qr14
      case qh14 =>
        go_light
        go_simp
        rfl
      simp only [Act.put, List.setIfInBounds_toArray, List.set_cons_zero, List.set_cons_succ]
      refine r_val (v := ?qv15) (by kernel_rfl) (fun W hW => ?qh15) ?qr15
      case qh15 =>
        go_light
        go_simp
        rfl
      simp only [Act.put, List.setIfInBounds_toArray, List.set_cons_zero, List.set_cons_succ]
      refine r_val (v := ?qv16) (by kernel_rfl) (fun W hW => ?qh16) ?qr16
      case qh16 =>
        have q0 := (Below.cell hW (p := ⟨R, 0, none⟩) hz).trans c0
        go_light
        go_simp
        rfl
      simp only [Act.put, List.setIfInBounds_toArray, List.set_cons_zero, List.set_cons_succ]
      refine r_val (v := ?qv17) (by kernel_rfl) (fun W hW => ?qh17) ?qr17
      case qh17 =>
        go_light
        go_simp
        rfl
      simp only [Act.put, List.setIfInBounds_toArray, List.set_cons_zero, List.set_cons_succ]
      refine r_val (v := ?qv18) (by kernel_rfl) (fun W hW => ?qh18) ?qr18
      case qh18 =>
        go_light
        go_simp
        rfl
      simp only [Act.put, List.setIfInBounds_toArray, List.set_cons_zero, List.set_cons_succ]
      refine r_val (v := ?qv19) (by kernel_rfl) (fun W hW => ?qh19) ?qr19
      case qh19 =>
        go_light
        go_simp
        rfl
      simp only [Act.put, List.setIfInBounds_toArray, List.set_cons_zero, List.set_cons_succ]
      refine r_val (v := ?qv20) (by kernel_rfl) (fun W hW => ?qh20) ?qr20
      case qh20 =>
        have q1 := (Below.cell hW (p := ⟨R, 1, none⟩) hz).trans c1
        go_light
        go_simp
        rfl
      simp only [Act.put, List.setIfInBounds_toArray, List.set_cons_zero, List.set_cons_succ]
      refine r_val (v := ?qv21) (by kernel_rfl) (fun W hW => ?qh21) ?qr21
      case qh21 =>
        go_light
        go_simp
        rfl
      simp only [Act.put, List.setIfInBounds_toArray, List.set_cons_zero, List.set_cons_succ]
      refine r_val (v := ?qv22) (by kernel_rfl) (fun W hW => ?qh22) ?qr22
      case qh22 =>
        go_light
        go_simp
        rfl
      simp only [Act.put, List.setIfInBounds_toArray, List.set_cons_zero, List.set_cons_succ]
      refine r_val (v := ?qv23) (by kernel_rfl) (fun W hW => ?qh23) ?qr23
      case qh23 =>
        go_light
        go_simp
        rfl
      simp only [Act.put, List.setIfInBounds_toArray, List.set_cons_zero, List.set_cons_succ]
      refine r_val (v := ?qv24) (by kernel_rfl) (fun W hW => ?qh24) ?qr24
      case qh24 =>
        have q1 := (Below.cell hW (p := ⟨R, 1, none⟩) hz).trans c1
        go_light
        go_simp
        rfl
      simp only [Act.put, List.setIfInBounds_toArray, List.set_cons_zero, List.set_cons_succ]
      refine r_val (v := ?qv25) (by kernel_rfl) (fun W hW => ?qh25) ?qr25
      case qh25 =>
        go_light
        go_simp
        rfl
      simp only [Act.put, List.setIfInBounds_toArray, List.set_cons_zero, List.set_cons_succ]
      refine r_val (v := ?qv26) (by kernel_rfl) (fun W hW => ?qh26) ?qr26
      case qh26 =>
        go_light
        go_simp
        rfl
      simp only [Act.put, List.setIfInBounds_toArray, List.set_cons_zero, List.set_cons_succ]
      refine r_val (v := ?qv27) (by kernel_rfl) (fun W hW => ?qh27) ?qr27
      case qh27 =>
        go_light
        go_simp
        rfl
      simp only [Act.put, List.setIfInBounds_toArray, List.set_cons_zero, List.set_cons_succ]
      refine r_val (v := ?qv28) (by kernel_rfl) (fun W hW => ?qh28) ?qr28
      case qh28 =>
        go_light
        go_simp
        rfl
      simp only [Act.put, List.setIfInBounds_toArray, List.set_cons_zero, List.set_cons_succ]
      refine r_nil ?_
      intro w4 hw4
      go_wp2_with (fail)
      go_meet
      case rel => exact ⟨rfl, hw4⟩
    · have hBf : B = false := by
        rw [HBx]
        cases hop : (headIs 63 (s.data.toList.drop (n + 1)) && headIs 58 ((s.data.toList.drop (n + 1)).drop 1))
        · rfl
        · exact absurd (opens_two hop) hl
      have hL : decide ((n : Int) + 1 + 1 < (s.size : Int)) = false := by simp; omega
      clear HBx
      refine region_R (by kernel_rfl) (by kernel_rfl) ?_
      refine r_val (v := ?qv29) (by kernel_rfl) (fun W hW => ?qh29) ?qr29
      case qh29 =>
        go_light
        go_simp
        rfl
      simp only [Act.put, List.setIfInBounds_toArray, List.set_cons_zero, List.set_cons_succ]
      refine r_val (v := ?qv30) (by kernel_rfl) (fun W hW => ?qh30) ?qr30
      case qh30 =>
        go_light
        go_simp
        rfl
      simp only [Act.put, List.setIfInBounds_toArray, List.set_cons_zero, List.set_cons_succ]
      refine r_val (v := ?qv31) (by kernel_rfl) (fun W hW => ?qh31) ?qr31
      case qh31 =>
        go_light
        go_simp
        rfl
      simp only [Act.put, List.setIfInBounds_toArray, List.set_cons_zero, List.set_cons_succ]
      refine r_val (v := ?qv32) (by kernel_rfl) (fun W hW => ?qh32) ?qr32
      case qh32 =>
        have q1 := (Below.cell hW (p := ⟨R, 1, none⟩) hz).trans c1
        go_light
        go_simp
        rfl
      simp only [Act.put, List.setIfInBounds_toArray, List.set_cons_zero, List.set_cons_succ]
      refine r_val (v := ?qv33) (by kernel_rfl) (fun W hW => ?qh33) ?qr33
      case qh33 =>
        go_light
        go_simp
        rfl
      simp only [Act.put, List.setIfInBounds_toArray, List.set_cons_zero, List.set_cons_succ]
      refine r_val (v := ?qv34) (by kernel_rfl) (fun W hW => ?qh34) ?qr34
      case qh34 =>
        go_light
        go_simp
        rfl
      simp only [Act.put, List.setIfInBounds_toArray, List.set_cons_zero, List.set_cons_succ]
      refine r_val (v := ?qv35) (by kernel_rfl) (fun W hW => ?qh35) ?qr35
      case qh35 =>
        go_light
        go_simp
        rfl
      simp only [Act.put, List.setIfInBounds_toArray, List.set_cons_zero, List.set_cons_succ]
      refine r_val (v := ?qv36) (by kernel_rfl) (fun W hW => ?qh36) ?qr36
      case qh36 =>
        go_light
        go_simp
        rfl
      simp only [Act.put, List.setIfInBounds_toArray, List.set_cons_zero, List.set_cons_succ]
      refine r_val (v := ?qv37) (by kernel_rfl) (fun W hW => ?qh37) ?qr37
      case qh37 =>
        have q0 := (Below.cell hW (p := ⟨R, 0, none⟩) hz).trans c0
        go_light
        go_simp
        rfl
      simp only [Act.put, List.setIfInBounds_toArray, List.set_cons_zero, List.set_cons_succ]
      refine r_val (v := ?qv38) (by kernel_rfl) (fun W hW => ?qh38) ?qr38
      case qh38 =>
        go_light
        go_simp
        rfl
      simp only [Act.put, List.setIfInBounds_toArray, List.set_cons_zero, List.set_cons_succ]
      refine r_val (v := ?qv39) (by kernel_rfl) (fun W hW => ?qh39) ?qr39
      case qh39 =>
        go_light
        go_simp
        rfl
      simp only [Act.put, List.setIfInBounds_toArray, List.set_cons_zero, List.set_cons_succ]
      refine r_val (v := ?qv40) (by kernel_rfl) (fun W hW => ?qh40) ?qr40
      case qh40 =>
        go_light
        go_simp
        rfl
      simp only [Act.put, List.setIfInBounds_toArray, List.set_cons_zero, List.set_cons_succ]
      refine r_skip (by kernel_rfl) ?_
      simp only [Act.put, List.setIfInBounds_toArray, List.set_cons_zero, List.set_cons_succ]
      refine r_skip (by kernel_rfl) ?_
      simp only [Act.put, List.setIfInBounds_toArray, List.set_cons_zero, List.set_cons_succ]
      refine r_skip (by kernel_rfl) ?_
      simp only [Act.put, List.setIfInBounds_toArray, List.set_cons_zero, List.set_cons_succ]
      refine r_skip (by kernel_rfl) ?_
      simp only [Act.put, List.setIfInBounds_toArray, List.set_cons_zero, List.set_cons_succ]
      refine r_skip (by kernel_rfl) ?_
      simp only [Act.put, List.setIfInBounds_toArray, List.set_cons_zero, List.set_cons_succ]
      refine r_skip (by kernel_rfl) ?_
      simp only [Act.put, List.setIfInBounds_toArray, List.set_cons_zero, List.set_cons_succ]
      refine r_skip (by kernel_rfl) ?_
      simp only [Act.put, List.setIfInBounds_toArray, List.set_cons_zero, List.set_cons_succ]
      refine r_skip (by kernel_rfl) ?_
      simp only [Act.put, List.setIfInBounds_toArray, List.set_cons_zero, List.set_cons_succ]
      refine r_skip (by kernel_rfl) ?_
      simp only [Act.put, List.setIfInBounds_toArray, List.set_cons_zero, List.set_cons_succ]
      refine r_skip (by kernel_rfl) ?_
      simp only [Act.put, List.setIfInBounds_toArray, List.set_cons_zero, List.set_cons_succ]
      refine r_skip (by kernel_rfl) ?_
      simp only [Act.put, List.setIfInBounds_toArray, List.set_cons_zero, List.set_cons_succ]
      refine r_skip (by kernel_rfl) ?_
      simp only [Act.put, List.setIfInBounds_toArray, List.set_cons_zero, List.set_cons_succ]
      refine r_skip (by kernel_rfl) ?_
      simp only [Act.put, List.setIfInBounds_toArray, List.set_cons_zero, List.set_cons_succ]
      refine r_skip (by kernel_rfl) ?_
      simp only [Act.put, List.setIfInBounds_toArray, List.set_cons_zero, List.set_cons_succ]
      refine r_skip (by kernel_rfl) ?_
      simp only [Act.put, List.setIfInBounds_toArray, List.set_cons_zero, List.set_cons_succ]
      refine r_val (v := ?qv41) (by kernel_rfl) (fun W hW => ?qh41) ?qr41
      case qh41 =>
        go_light
        go_simp
        rfl
      simp only [Act.put, List.setIfInBounds_toArray, List.set_cons_zero, List.set_cons_succ]
      refine r_nil ?_
      intro w4 hw4
      go_wp2_with (fail)
      go_meet
      case rel => exact ⟨by rw [hBf], hw4⟩
  case rest =>
  obtain ⟨rfl, hw4⟩ := hcut
  have h4 := h3.gr hw4
  have x4 := x3.trans (WX.gr (blk A) hw4)
  clear h3 x3 hw4 c0 c1 hz
  go_upto_if 37 with (fail)
  go_cut [2] from 38 to 60 (fun k wx => ∃ n1 g1 : Nat, k = .int .i64 o.1 ∧ RfW wx R s n1 q.deep 0 g1 A code ∧ WX R w (blk A) wx (blk A) ∧ s.data.toList.drop n1 = o.2.rest ∧ n1 ≤ s.size ∧ g1 = o.2.groups ∧ o.2.deep = q.deep + 1)
  case first =>
    have HOx := HO.out
    unfold openS at HOx
    simp only at HOx
    rw [← HB.out] at HOx
    cases B
    · rw [cond_false] at HOx
      have Hox := Lib.hid HOx
      clear HOx
      obtain ⟨cc4, hc4⟩ := id h4
      obtain ⟨c4, f4⟩ := And.intro hc4.c4 hc4.f4
      clear hc4
      have hw3 : IntKind.i64.wrap ((q.groups : Int) + 1) = (q.groups : Int) + 1 := IntWalk.i64_in _ (by omega)
      go_wp2_with (fail)
      go_meet
      case rel =>
        rw [Hox.out]
        have t := h4.setGroups (q.groups + 1)
        rw [show ((q.groups + 1 : Nat) : Int) = (q.groups : Int) + 1 by omega] at t
        exact ⟨n + 1, _, rfl, t, x4.set (p := ⟨R, 4, none⟩) (.inl rfl) _, hdr, by omega, rfl, rfl⟩
    · have HBx := HB.out
      rw [← hdr] at HBx
      have hl := opens_two HBx.symm
      clear HBx
      rw [cond_true] at HOx
      have Hox := Lib.hid HOx
      clear HOx
      obtain ⟨cc4, hc4⟩ := id h4
      obtain ⟨c1, f1⟩ := And.intro hc4.c1 hc4.f1
      rw [show ((n + 1 : Nat) : Int) = (n : Int) + 1 by omega] at c1
      clear hc4
      go_wp2_with (fail)
      go_meet
      case rel =>
        rw [Hox.out]
        have t := h4.setAt (n + 1 + 2)
        rw [show ((n + 1 + 2 : Nat) : Int) = (n : Int) + 1 + 2 by omega] at t
        exact ⟨n + 1 + 2, _, rfl, t, x4.set (p := ⟨R, 1, none⟩) (.inl rfl) _, by rw [← hdr, List.drop_drop], by omega, rfl, rfl⟩
  case rest =>
  clear h4 x4
  obtain ⟨n1, g1, rfl, h4, x4, hd1, hn1, hg1, hdo⟩ := hcut
  subst hg1
  obtain ⟨cc5, hc5⟩ := id h4
  obtain ⟨c2, f2⟩ := And.intro hc5.c2 hc5.f2
  clear hc5
  have hw5 : IntKind.i64.wrap ((q.deep : Int) + 1) = (q.deep : Int) + 1 := IntWalk.i64_in _ (by omega)
  go_upto_region 7 with (fail)
  have h5 := h4.setDeep (q.deep + 1)
  rw [show ((q.deep + 1 : Nat) : Int) = (q.deep : Int) + 1 by omega] at h5
  have x5 := x4.set (p := ⟨R, 2, none⟩) (.inl rfl) (.int .i64 ((q.deep : Int) + 1))
  clear h4 x4 c2 f2
  generalize wc.setCell ⟨R, 2, none⟩ (.int .i64 ((q.deep : Int) + 1)) = w5 at h5 x5 ⊢
  obtain ⟨cc6, hc6⟩ := id h5
  have c2 := hc6.c2
  rw [show ((q.deep + 1 : Nat) : Int) = (q.deep : Int) + 1 by omega] at c2
  clear hc6
  by_cases hov : 64 ≤ q.deep
  · have hTo : T = failS { q with rest := r, deep := q.deep + 1, over := true } := by rw [HT.out, (by simp; omega : Nat.ble 64 q.deep = true)]; rfl
    have HB8 := Lib.hid (bad_new h5 12 rfl)
    have h6 := h5.setErr 12
    have x6 := x5.set (p := ⟨R, 3, none⟩) (.inl rfl) (.int .i64 12)
    have hgt : (64 : Int) < (q.deep : Int) + 1 := by omega
    have HTo := Lib.hid hTo
    clear hTo
    go_wp2_with (go_at_call 18; refine HB8.out.mono ?_; rintro x w9 ⟨rfl, rfl⟩)
    go_end0
    rw [HTo.out]
    exact ⟨rfl, n1, _, _, A, _, by simp only [errE, failS, cond_true]; exact h6, x6, ⟨Nat.le_refl _, by simp [failS]⟩, fun h => by simp [failS] at h⟩
  · have hgt : ¬ (64 : Int) < (q.deep : Int) + 1 := by omega
    obtain ⟨t, ht⟩ : ∃ t, t = Wf o.2 := ⟨_, rfl⟩
    have hTo := HT.out
    rw [(by rw [Bool.eq_false_iff]; intro hh; rw [Nat.ble_eq] at hh; omega : Nat.ble 64 q.deep = false), cond_false, ← ht] at hTo
    have HTo := Lib.hid hTo
    rw [← ht] at HWW
    have hWt : t.2.bad = false → t.2.deep = o.2.deep := by rw [ht]; exact hWd o.2
    clear hTo ht HT
    have hr : o.2.rest.length + 1 ≤ q.rest.length := by
      obtain ⟨o1, -, -, -⟩ := openS_gd { q with rest := r, deep := q.deep + 1 }
      rw [← HO.out] at o1
      rw [hq, List.length_cons]
      exact Nat.succ_le_succ o1
    have hk1 : o.1 ≤ q.groups + 1 := by
      rw [HO.out]
      unfold openS
      cases (headIs 63 r && headIs 58 (r.drop 1)) <;> simp
    have h5' : RfW w5 R s n1 o.2.deep 0 o.2.groups A code := by rw [hdo]; exact h5
    have hbb := Hb.out
    by_cases hk : o.1 = 0
    · have hk0 : ¬ (0 : Int) < (o.1 : Int) := by omega
      have hlen : code.length + 2 * o.2.rest.length ≤ 4000 := by omega
      go_upto_region 12 with (go_at_call 17; refine (HWW.out _ A code n1 hcd hlen ⟨h5', hd1, hn1⟩).mono ?_; rintro x w7 ⟨rfl, n7, d7, g7, A7, code7, k1, k2, k3, k4⟩; have x7 := x5.trans k2)
      clear k2 h5 x5 c2
      obtain ⟨cc7, hc7⟩ := id k1
      have c3 := hc7.c3
      clear hc7
      cases hb7 : t.2.bad
      case true =>
        have hne : (((errE t.2 : Nat) : Int) == 0) = false := by simp only [errE, hb7]; cases t.2.over <;> rfl
        have hT9 : T = failS t.2 := by rw [HTo.out, hb7]; rfl
        have he9 : errE (failS t.2).2 = errE t.2 := by simp only [errE, failS, hb7]
        have Hf := Lib.hid (And.intro hT9 he9)
        have k3' : Hid ((code : List In).length ≤ code7.length ∧ code7.length ≤ (code : List In).length + 2 * o.2.rest.length) := Lib.hid (by rw [hb7] at k3; exact ⟨k3.1, by simpa using k3.2⟩)
        clear hT9 he9 hb7 k3
        go_wp2_with (fail)
        go_end0
        rw [Hf.out.1]
        exact ⟨rfl, n7, _, _, A7, _, by rw [Hf.out.2]; exact k1, x7, ⟨by have := k3'.out.1; simp at this ⊢; omega, by have := k3'.out.2; simp [failS] at this ⊢; omega⟩, fun h => by simp [failS] at h⟩
      case false =>
        obtain ⟨j1, j2, j3, j4, j5, j6⟩ := k4 hb7
        have he : errE t.2 = 0 := by simp only [errE, hb7, j1]; rfl
        rw [he] at k1 c3
        have HM := Lib.hid (more_any k1 hs 41)
        rw [j3] at HM
        cases h41 : headIs 41 t.2.rest
        case false =>
          rw [h41] at HM
          have hT9 : T = failS t.2 := by rw [HTo.out, hb7, h41]; rfl
          have HT9 := Lib.hid hT9
          have J := Lib.hid (And.intro j1 (And.intro j2 hb7))
          clear hT9 h41 j1 j2 j3 j5 j6 k4 he
          go_upto_region 14 with (go_at_call 24; refine HM.out.mono ?_; rintro x w8 ⟨rfl, g8⟩; have k8 := k1.gr g8; have x8 := x7.trans (WX.gr _ g8))
          have HB8 := Lib.hid (bad_new k8 8 rfl)
          have k9 := k8.setErr 8
          have x9 := x8.set (p := ⟨R, 3, none⟩) (.inl rfl) (.int .i64 8)
          clear k1 x7 c3
          go_wp2_with (go_at_call 18; refine HB8.out.mono ?_; rintro x w9 ⟨rfl, rfl⟩)
          go_end0
          rw [HT9.out]
          exact ⟨rfl, n7, _, _, A7, _, by simp only [errE, failS, J.out.1, cond_true, cond_false]; exact k9, x9, ⟨by have := k3.1; simp at this ⊢; omega, by have := k3.2; rw [J.out.2.2] at this; simp [failS] at this ⊢; omega⟩, fun h => by simp [failS] at h⟩
        case true =>
          rw [h41] at HM
          obtain ⟨y, t1, ht1, -⟩ := headIs_cons h41
          have hn7 : n7 < s.size := by
            rcases Nat.lt_or_ge n7 s.size with h1 | h1
            · exact h1
            · rw [List.drop_eq_nil_of_le (by simp; omega), ht1] at j3; cases j3
          have hT9 : T = (.group o.1 t.1, { t.2 with rest := t.2.rest.drop 1, deep := t.2.deep - 1 }) := by rw [HTo.out, (by rw [hb7, h41]; rfl : (t.2.bad || !headIs 41 t.2.rest) = false), cond_false]
          have HT9 := Lib.hid hT9
          have hd7 : d7 = q.deep + 1 := by rw [j5, ← hdo]; exact hWt hb7
          have J := Lib.hid (And.intro j1 (And.intro j2 (And.intro hb7 (And.intro j3 (And.intro j5 j6)))))
          clear hT9 h41 j1 j2 j3 j5 j6 k4 he ht1
          subst hd7
          go_upto_region 15 with (go_at_call 24; refine HM.out.mono ?_; rintro x w8 ⟨rfl, g8⟩; have k8 := k1.gr g8; have x8 := x7.trans (WX.gr _ g8))
          clear k1 x7 c3
          obtain ⟨cc8, hc8⟩ := id k8
          obtain ⟨c1, f1⟩ := And.intro hc8.c1 hc8.f1
          clear hc8
          have hn74 : (n7 : Int) < 4096 := by omega
          go_upto_region 16 with (fail)
          have k9 := k8.setAt (n7 + 1)
          rw [show ((n7 + 1 : Nat) : Int) = (n7 : Int) + 1 by omega] at k9
          have x9 := x8.set (p := ⟨R, 1, none⟩) (.inl rfl) (.int .i64 ((n7 : Int) + 1))
          clear k8 x8 c1 f1
          generalize w8.setCell ⟨R, 1, none⟩ (.int .i64 ((n7 : Int) + 1)) = w9 at k9 x9 ⊢
          obtain ⟨cc9, hc9⟩ := id k9
          obtain ⟨c2, f2⟩ := And.intro hc9.c2 hc9.f2
          clear hc9
          rw [show ((q.deep + 1 : Nat) : Int) = (q.deep : Int) + 1 by omega] at c2
          have hw7 : IntKind.i64.wrap ((q.deep : Int) + 1 - 1) = (q.deep : Int) := by rw [IntWalk.i64_in _ (by omega)]; omega
          go_upto_region 17 with (fail)
          have kA := k9.setDeep q.deep
          have xA := x9.set (p := ⟨R, 2, none⟩) (.inl rfl) (.int .i64 (q.deep : Int))
          clear k9 x9 c2 f2
          generalize w9.setCell ⟨R, 2, none⟩ (.int .i64 (q.deep : Int)) = wA at kA xA ⊢
          go_wp2_with (fail)
          go_end0
          rw [HT9.out]
          refine ⟨rfl, n7 + 1, _, _, _, _, by simp only [errE, J.out.1, J.out.2.2.1, cond_false]; exact kA, xA, ?_, fun _ => ⟨J.out.1, ?_, ?_, by omega, ?_, J.out.2.2.2.2.2⟩⟩
          · refine ⟨by have := k3.1; simp at this ⊢; omega, ?_⟩; have := k3.2; rw [J.out.2.2.1] at this; simp [J.out.2.2.1] at this ⊢; omega
          · have := J.out.2.1; simp [Pc.lay, hk]; exact this
          · show _ = t.2.rest.drop 1
            rw [← J.out.2.2.2.1, List.drop_drop]
          · have := J.out.2.2.2.2.1; show q.deep = t.2.deep - 1; omega
    · have hk0 : (0 : Int) < (o.1 : Int) := by omega
      have hw6 : IntKind.i64.wrap (2 * (o.1 : Int)) = 2 * (o.1 : Int) := IntWalk.i64_in _ (by omega)
      have hlen : (code ++ [(⟨4, 2 * (o.1 : Int), 0, []⟩ : In)]).length + 2 * o.2.rest.length ≤ 4000 := by simp; omega
      have HL := Lib.hid (rlay_any h5' 4 (2 * (o.1 : Int)) 0 [] (by omega))
      go_upto_region 11 with (go_at_call 16; refine HL.out.mono ?_; rintro x w6 ⟨rfl, A6, h6, x6'⟩; have x6 := x5.trans x6')
      go_upto_region 12 with (go_at_call 17; refine (HWW.out _ A6 (code ++ [(⟨4, 2 * (o.1 : Int), 0, []⟩ : In)]) n1 (hcd.snoc (by simp only; omega)) hlen ⟨h6, hd1, hn1⟩).mono ?_; rintro x w7 ⟨rfl, n7, d7, g7, A7, code7, k1, k2, k3, k4⟩; have x7 := x6.trans k2)
      clear k2 h5 x5 c2
      obtain ⟨cc7, hc7⟩ := id k1
      have c3 := hc7.c3
      clear hc7
      cases hb7 : t.2.bad
      case true =>
        have hne : (((errE t.2 : Nat) : Int) == 0) = false := by simp only [errE, hb7]; cases t.2.over <;> rfl
        have hT9 : T = failS t.2 := by rw [HTo.out, hb7]; rfl
        have he9 : errE (failS t.2).2 = errE t.2 := by simp only [errE, failS, hb7]
        have Hf := Lib.hid (And.intro hT9 he9)
        have k3' : Hid (((code ++ [(⟨4, 2 * (o.1 : Int), 0, []⟩ : In)]) : List In).length ≤ code7.length ∧ code7.length ≤ ((code ++ [(⟨4, 2 * (o.1 : Int), 0, []⟩ : In)]) : List In).length + 2 * o.2.rest.length) := Lib.hid (by rw [hb7] at k3; exact ⟨k3.1, by simpa using k3.2⟩)
        clear hT9 he9 hb7 k3
        go_wp2_with (fail)
        go_end0
        rw [Hf.out.1]
        exact ⟨rfl, n7, _, _, A7, _, by rw [Hf.out.2]; exact k1, x7, ⟨by have := k3'.out.1; simp at this ⊢; omega, by have := k3'.out.2; simp [failS] at this ⊢; omega⟩, fun h => by simp [failS] at h⟩
      case false =>
        obtain ⟨j1, j2, j3, j4, j5, j6⟩ := k4 hb7
        have he : errE t.2 = 0 := by simp only [errE, hb7, j1]; rfl
        rw [he] at k1 c3
        have HM := Lib.hid (more_any k1 hs 41)
        rw [j3] at HM
        cases h41 : headIs 41 t.2.rest
        case false =>
          rw [h41] at HM
          have hT9 : T = failS t.2 := by rw [HTo.out, hb7, h41]; rfl
          have HT9 := Lib.hid hT9
          have J := Lib.hid (And.intro j1 (And.intro j2 hb7))
          clear hT9 h41 j1 j2 j3 j5 j6 k4 he
          go_upto_region 14 with (go_at_call 24; refine HM.out.mono ?_; rintro x w8 ⟨rfl, g8⟩; have k8 := k1.gr g8; have x8 := x7.trans (WX.gr _ g8))
          have HB8 := Lib.hid (bad_new k8 8 rfl)
          have k9 := k8.setErr 8
          have x9 := x8.set (p := ⟨R, 3, none⟩) (.inl rfl) (.int .i64 8)
          clear k1 x7 c3
          go_wp2_with (go_at_call 18; refine HB8.out.mono ?_; rintro x w9 ⟨rfl, rfl⟩)
          go_end0
          rw [HT9.out]
          exact ⟨rfl, n7, _, _, A7, _, by simp only [errE, failS, J.out.1, cond_true, cond_false]; exact k9, x9, ⟨by have := k3.1; simp at this ⊢; omega, by have := k3.2; rw [J.out.2.2] at this; simp [failS] at this ⊢; omega⟩, fun h => by simp [failS] at h⟩
        case true =>
          rw [h41] at HM
          obtain ⟨y, t1, ht1, -⟩ := headIs_cons h41
          have hn7 : n7 < s.size := by
            rcases Nat.lt_or_ge n7 s.size with h1 | h1
            · exact h1
            · rw [List.drop_eq_nil_of_le (by simp; omega), ht1] at j3; cases j3
          have hT9 : T = (.group o.1 t.1, { t.2 with rest := t.2.rest.drop 1, deep := t.2.deep - 1 }) := by rw [HTo.out, (by rw [hb7, h41]; rfl : (t.2.bad || !headIs 41 t.2.rest) = false), cond_false]
          have HT9 := Lib.hid hT9
          have hd7 : d7 = q.deep + 1 := by rw [j5, ← hdo]; exact hWt hb7
          have J := Lib.hid (And.intro j1 (And.intro j2 (And.intro hb7 (And.intro j3 (And.intro j5 j6)))))
          clear hT9 h41 j1 j2 j3 j5 j6 k4 he ht1
          subst hd7
          go_upto_region 15 with (go_at_call 24; refine HM.out.mono ?_; rintro x w8 ⟨rfl, g8⟩; have k8 := k1.gr g8; have x8 := x7.trans (WX.gr _ g8))
          clear k1 x7 c3
          obtain ⟨cc8, hc8⟩ := id k8
          obtain ⟨c1, f1⟩ := And.intro hc8.c1 hc8.f1
          clear hc8
          have hn74 : (n7 : Int) < 4096 := by omega
          go_upto_region 16 with (fail)
          have k9 := k8.setAt (n7 + 1)
          rw [show ((n7 + 1 : Nat) : Int) = (n7 : Int) + 1 by omega] at k9
          have x9 := x8.set (p := ⟨R, 1, none⟩) (.inl rfl) (.int .i64 ((n7 : Int) + 1))
          clear k8 x8 c1 f1
          generalize w8.setCell ⟨R, 1, none⟩ (.int .i64 ((n7 : Int) + 1)) = w9 at k9 x9 ⊢
          obtain ⟨cc9, hc9⟩ := id k9
          obtain ⟨c2, f2⟩ := And.intro hc9.c2 hc9.f2
          clear hc9
          rw [show ((q.deep + 1 : Nat) : Int) = (q.deep : Int) + 1 by omega] at c2
          have hw7 : IntKind.i64.wrap ((q.deep : Int) + 1 - 1) = (q.deep : Int) := by rw [IntWalk.i64_in _ (by omega)]; omega
          go_upto_region 17 with (fail)
          have kA := k9.setDeep q.deep
          have xA := x9.set (p := ⟨R, 2, none⟩) (.inl rfl) (.int .i64 (q.deep : Int))
          clear k9 x9 c2 f2
          generalize w9.setCell ⟨R, 2, none⟩ (.int .i64 (q.deep : Int)) = wA at kA xA ⊢
          have hw8 : IntKind.i64.wrap (2 * (o.1 : Int) + 1) = 2 * (o.1 : Int) + 1 := IntWalk.i64_in _ (by omega)
          have HL2 := Lib.hid (rlay_any kA 4 (2 * (o.1 : Int) + 1) 0 [] (by have := k3.2; simp at this hlen; omega))
          go_wp2_with (go_at_call 16; refine HL2.out.mono ?_; rintro x wB ⟨rfl, A9, kB, xB⟩)
          go_end0
          rw [HT9.out]
          refine ⟨rfl, n7 + 1, _, _, _, _, by simp only [errE, J.out.1, J.out.2.2.1, cond_false]; exact kB, xA.trans xB, ?_, fun _ => ⟨J.out.1, ?_, ?_, by omega, ?_, J.out.2.2.2.2.2⟩⟩
          · refine ⟨by have := k3.1; simp at this ⊢; omega, ?_⟩; have := k3.2; rw [J.out.2.2.1] at this; simp [J.out.2.2.1] at this ⊢; omega
          · have := J.out.2.1; simp only [Pc.lay, beq_eq_false_iff_ne.2 hk, cond_false]; rw [this]; simp
          · show _ = t.2.rest.drop 1
            rw [← J.out.2.2.2.1, List.drop_drop]
          · have := J.out.2.2.2.2.1; show q.deep = t.2.deep - 1; omega
end Go.Proofs.Ytpcmdijgepbilaa
