/- The contract of rex.reader.ranges: may a hyphen that is next make a range? -/
import Derived.Test.YtpcmdijgepbilaaRxSide
import Derived.Test.YtpcmdijgepbilaaRegR
import Derived.Test.YtpcmdijgepbilaaRegZ
import Derived.IntWalk
import Derived.Deep.Light
namespace Go.Proofs.Ytpcmdijgepbilaa
open Go.RowKit
set_option linter.unusedVariables false
set_option linter.unusedSimpArgs false

theorem wrap_in (x : Int) (h : 0 ≤ x) (h' : x ≤ 1000000) : IntKind.i64.wrap x = x := IntWalk.i64_in x ⟨by omega, by omega⟩
set_option maxRecDepth 100000 in
set_option maxHeartbeats 3200000 in
theorem rng_no {w : World} {R n : Nat} {s : ByteArray} {q : Rs} (h : Rdr w R s n q) (hs : (s.size : Int) ≤ 4096) (hq : headIs 45 q.rest = false) :
    Calls Try.prog 46 #[.pointer (some ⟨R, 0, none⟩)] w fun e w' => e = .returned (.bool false) ∧ Gr w w' := by
  have QI := fun w (h : Rdr w R s n q) => is_no h hs 45 (by decide) hq
  clear hq
  have HF : Hid (∀ W, Gr w W → W.cell? ⟨R, 0, none⟩ = some (.string s) ∧ W.cell? ⟨R, 1, none⟩ = some (.int .i64 n)) := Lib.hid (fun W hW => ⟨(hW.cell (p := ⟨R, 0, none⟩) h.lt).trans h.c0, (hW.cell (p := ⟨R, 1, none⟩) h.lt).trans h.c1⟩)
  go_enter Try.func46, Try.ntmps46
  go_wp2
  refine region_R (by kernel_rfl) (by kernel_rfl) ?_
  refine r_val (v := ?qv1) (by kernel_rfl) (fun W hW => ?qh1) ?qr1
  case qh1 =>
    go_light
    go_simp
    rfl
  simp only [Act.put, List.setIfInBounds_toArray, List.set_cons_zero, List.set_cons_succ]
  refine r_val (v := ?qv2) (by kernel_rfl) (fun W hW => ?qh2) ?qr2
  case qh2 =>
    go_light
    go_simp
    rfl
  simp only [Act.put, List.setIfInBounds_toArray, List.set_cons_zero, List.set_cons_succ]
  refine r_val (v := ?qv3) (by kernel_rfl) (fun W hW => ?qh3) ?qr3
  case qh3 =>
    go_light
    go_simp
    rfl
  simp only [Act.put, List.setIfInBounds_toArray, List.set_cons_zero, List.set_cons_succ]
  refine r_call (v := .bool false) (f := ?qf4) (args := ?qa4) (by kernel_rfl) (fun W hW => ?qh4) (fun W hW => ?qc4) ?qr4
  case qh4 =>
    go_light
    go_simp
    constructor
    · rfl
    · rfl
  case qc4 => exact (QI W (h.gr hW)).mono (fun e w' h => ⟨h.1, Gr.trans hW h.2⟩)
  simp only [Act.put, List.setIfInBounds_toArray, List.set_cons_zero, List.set_cons_succ]
  refine r_val (v := ?qv5) (by kernel_rfl) (fun W hW => ?qh5) ?qr5
  case qh5 =>
    go_light
    go_simp
    rfl
  simp only [Act.put, List.setIfInBounds_toArray, List.set_cons_zero, List.set_cons_succ]
  refine r_val (v := ?qv6) (by kernel_rfl) (fun W hW => ?qh6) ?qr6
  case qh6 =>
    go_light
    go_simp
    rfl
  simp only [Act.put, List.setIfInBounds_toArray, List.set_cons_zero, List.set_cons_succ]
  refine r_skip (by kernel_rfl) ?_
  simp only [Act.put, List.setIfInBounds_toArray, List.set_cons_zero, List.set_cons_succ]
  refine r_skip (by kernel_rfl) ?_
  simp only [Act.put, List.setIfInBounds_toArray, List.set_cons_zero, List.set_cons_succ]
  refine r_skip (by kernel_rfl) ?_
  simp only [Act.put, List.setIfInBounds_toArray, List.set_cons_zero, List.set_cons_succ]
  refine r_skip (by kernel_rfl) ?_
  simp only [Act.put, List.setIfInBounds_toArray, List.set_cons_zero, List.set_cons_succ]
  refine r_skip (by kernel_rfl) ?_
  simp only [Act.put, List.setIfInBounds_toArray, List.set_cons_zero, List.set_cons_succ]
  refine r_skip (by kernel_rfl) ?_
  simp only [Act.put, List.setIfInBounds_toArray, List.set_cons_zero, List.set_cons_succ]
  refine r_skip (by kernel_rfl) ?_
  simp only [Act.put, List.setIfInBounds_toArray, List.set_cons_zero, List.set_cons_succ]
  refine r_skip (by kernel_rfl) ?_
  simp only [Act.put, List.setIfInBounds_toArray, List.set_cons_zero, List.set_cons_succ]
  refine r_skip (by kernel_rfl) ?_
  simp only [Act.put, List.setIfInBounds_toArray, List.set_cons_zero, List.set_cons_succ]
  refine r_skip (by kernel_rfl) ?_
  simp only [Act.put, List.setIfInBounds_toArray, List.set_cons_zero, List.set_cons_succ]
  refine r_skip (by kernel_rfl) ?_
  simp only [Act.put, List.setIfInBounds_toArray, List.set_cons_zero, List.set_cons_succ]
  refine r_skip (by kernel_rfl) ?_
  simp only [Act.put, List.setIfInBounds_toArray, List.set_cons_zero, List.set_cons_succ]
  refine r_skip (by kernel_rfl) ?_
  simp only [Act.put, List.setIfInBounds_toArray, List.set_cons_zero, List.set_cons_succ]
  refine r_val (v := ?qv7) (by kernel_rfl) (fun W hW => ?qh7) ?qr7
  case qh7 =>
    go_light
    go_simp
    rfl
  simp only [Act.put, List.setIfInBounds_toArray, List.set_cons_zero, List.set_cons_succ]
  refine r_val (v := ?qv8) (by kernel_rfl) (fun W hW => ?qh8) ?qr8
  case qh8 =>
    go_light
    go_simp
    rfl
  simp only [Act.put, List.setIfInBounds_toArray, List.set_cons_zero, List.set_cons_succ]
  refine r_skip (by kernel_rfl) ?_
  simp only [Act.put, List.setIfInBounds_toArray, List.set_cons_zero, List.set_cons_succ]
  refine r_skip (by kernel_rfl) ?_
  simp only [Act.put, List.setIfInBounds_toArray, List.set_cons_zero, List.set_cons_succ]
  refine r_skip (by kernel_rfl) ?_
  simp only [Act.put, List.setIfInBounds_toArray, List.set_cons_zero, List.set_cons_succ]
  refine r_skip (by kernel_rfl) ?_
  simp only [Act.put, List.setIfInBounds_toArray, List.set_cons_zero, List.set_cons_succ]
  refine r_skip (by kernel_rfl) ?_
  simp only [Act.put, List.setIfInBounds_toArray, List.set_cons_zero, List.set_cons_succ]
  refine r_skip (by kernel_rfl) ?_
  simp only [Act.put, List.setIfInBounds_toArray, List.set_cons_zero, List.set_cons_succ]
  refine r_skip (by kernel_rfl) ?_
  simp only [Act.put, List.setIfInBounds_toArray, List.set_cons_zero, List.set_cons_succ]
  refine r_skip (by kernel_rfl) ?_
  simp only [Act.put, List.setIfInBounds_toArray, List.set_cons_zero, List.set_cons_succ]
  refine r_skip (by kernel_rfl) ?_
  simp only [Act.put, List.setIfInBounds_toArray, List.set_cons_zero, List.set_cons_succ]
  refine r_skip (by kernel_rfl) ?_
  simp only [Act.put, List.setIfInBounds_toArray, List.set_cons_zero, List.set_cons_succ]
  refine r_skip (by kernel_rfl) ?_
  simp only [Act.put, List.setIfInBounds_toArray, List.set_cons_zero, List.set_cons_succ]
  refine r_skip (by kernel_rfl) ?_
  simp only [Act.put, List.setIfInBounds_toArray, List.set_cons_zero, List.set_cons_succ]
  refine r_skip (by kernel_rfl) ?_
  simp only [Act.put, List.setIfInBounds_toArray, List.set_cons_zero, List.set_cons_succ]
  refine r_val (v := ?qv9) (by kernel_rfl) (fun W hW => ?qh9) ?qr9
  case qh9 =>
    go_light
    go_simp
    rfl
  simp only [Act.put, List.setIfInBounds_toArray, List.set_cons_zero, List.set_cons_succ]
  refine r_nil ?_
  intro w1 hg1
  go_wp2
  go_ret
  exact ⟨rfl, hg1⟩

set_option maxRecDepth 100000 in
set_option maxHeartbeats 3200000 in
theorem rng_end {w : World} {R n : Nat} {s : ByteArray} {q : Rs} (h : Rdr w R s n q) (hs : (s.size : Int) ≤ 4096) {c : UInt8} (hc : c.toNat = 45) (hq : q.rest = [c]) :
    Calls Try.prog 46 #[.pointer (some ⟨R, 0, none⟩)] w fun e w' => e = .returned (.bool false) ∧ Gr w w' := by
  have QI := fun w (h : Rdr w R s n q) => is_yes h hs 45 (by decide) (by rw [hq]; simp [headIs, hc])
  have hl := h.len
  rw [hq] at hl
  simp at hl
  have hd1 : decide ((n : Int) + 1 ≥ (s.size : Int)) = true := decide_eq_true (by omega)
  have hd1' : (s.size : Int) ≤ (n : Int) + 1 := by omega
  have hwr := wrap_in ((n : Int) + 1) (by omega) (by omega)
  clear hl
  clear hq
  have HF : Hid (∀ W, Gr w W → W.cell? ⟨R, 0, none⟩ = some (.string s) ∧ W.cell? ⟨R, 1, none⟩ = some (.int .i64 n)) := Lib.hid (fun W hW => ⟨(hW.cell (p := ⟨R, 0, none⟩) h.lt).trans h.c0, (hW.cell (p := ⟨R, 1, none⟩) h.lt).trans h.c1⟩)
  go_enter Try.func46, Try.ntmps46
  go_wp2
  refine region_R (by kernel_rfl) (by kernel_rfl) ?_
  refine r_val (v := ?qv10) (by kernel_rfl) (fun W hW => ?qh10) ?qr10
  case qh10 =>
    go_light
    go_simp
    rfl
  simp only [Act.put, List.setIfInBounds_toArray, List.set_cons_zero, List.set_cons_succ]
  refine r_val (v := ?qv11) (by kernel_rfl) (fun W hW => ?qh11) ?qr11
  case qh11 =>
    go_light
    go_simp
    rfl
  simp only [Act.put, List.setIfInBounds_toArray, List.set_cons_zero, List.set_cons_succ]
  refine r_val (v := ?qv12) (by kernel_rfl) (fun W hW => ?qh12) ?qr12
  case qh12 =>
    go_light
    go_simp
    rfl
  simp only [Act.put, List.setIfInBounds_toArray, List.set_cons_zero, List.set_cons_succ]
  refine r_call (v := .bool true) (f := ?qf13) (args := ?qa13) (by kernel_rfl) (fun W hW => ?qh13) (fun W hW => ?qc13) ?qr13
  case qh13 =>
    go_light
    go_simp
    constructor
    · rfl
    · rfl
  case qc13 => exact (QI W (h.gr hW)).mono (fun e w' h => ⟨h.1, Gr.trans hW h.2⟩)
  simp only [Act.put, List.setIfInBounds_toArray, List.set_cons_zero, List.set_cons_succ]
  refine r_val (v := ?qv14) (by kernel_rfl) (fun W hW => ?qh14) ?qr14
  case qh14 =>
    go_light
    go_simp
    rfl
  simp only [Act.put, List.setIfInBounds_toArray, List.set_cons_zero, List.set_cons_succ]
  refine r_val (v := ?qv15) (by kernel_rfl) (fun W hW => ?qh15) ?qr15
  case qh15 =>
    go_light
    go_simp
    rfl
  simp only [Act.put, List.setIfInBounds_toArray, List.set_cons_zero, List.set_cons_succ]
  refine r_val (v := ?qv16) (by kernel_rfl) (fun W hW => ?qh16) ?qr16
  case qh16 =>
    go_light
    go_simp
    rfl
  simp only [Act.put, List.setIfInBounds_toArray, List.set_cons_zero, List.set_cons_succ]
  refine r_val (v := ?qv17) (by kernel_rfl) (fun W hW => ?qh17) ?qr17
  case qh17 =>
    go_light
    go_simp
    rfl
  simp only [Act.put, List.setIfInBounds_toArray, List.set_cons_zero, List.set_cons_succ]
  refine r_val (v := ?qv18) (by kernel_rfl) (fun W hW => ?qh18) ?qr18
  case qh18 =>
    go_light
    go_simp
    rfl
  simp only [Act.put, List.setIfInBounds_toArray, List.set_cons_zero, List.set_cons_succ]
  refine r_val (v := ?qv19) (by kernel_rfl) (fun W hW => ?qh19) ?qr19
  case qh19 =>
    go_light
    go_simp
    rfl
  simp only [Act.put, List.setIfInBounds_toArray, List.set_cons_zero, List.set_cons_succ]
  refine r_val (v := ?qv20) (by kernel_rfl) (fun W hW => ?qh20) ?qr20
  case qh20 =>
    obtain ⟨y0, y1⟩ := HF.out W hW
    go_light
    go_simp
    rfl
  simp only [Act.put, List.setIfInBounds_toArray, List.set_cons_zero, List.set_cons_succ]
  refine r_val (v := ?qv21) (by kernel_rfl) (fun W hW => ?qh21) ?qr21
  case qh21 =>
    go_light
    go_simp
    rfl
  simp only [Act.put, List.setIfInBounds_toArray, List.set_cons_zero, List.set_cons_succ]
  refine r_val (v := ?qv22) (by kernel_rfl) (fun W hW => ?qh22) ?qr22
  case qh22 =>
    go_light
    go_simp
    rfl
  simp only [Act.put, List.setIfInBounds_toArray, List.set_cons_zero, List.set_cons_succ]
  refine r_val (v := ?qv23) (by kernel_rfl) (fun W hW => ?qh23) ?qr23
  case qh23 =>
    go_light
    go_simp
    rfl
  simp only [Act.put, List.setIfInBounds_toArray, List.set_cons_zero, List.set_cons_succ]
  refine r_val (v := ?qv24) (by kernel_rfl) (fun W hW => ?qh24) ?qr24
  case qh24 =>
    go_light
    go_simp
    rfl
  simp only [Act.put, List.setIfInBounds_toArray, List.set_cons_zero, List.set_cons_succ]
  refine r_val (v := ?qv25) (by kernel_rfl) (fun W hW => ?qh25) ?qr25
  case qh25 =>
    go_light
    go_simp
    rfl
  simp only [Act.put, List.setIfInBounds_toArray, List.set_cons_zero, List.set_cons_succ]
  refine r_val (v := ?qv26) (by kernel_rfl) (fun W hW => ?qh26) ?qr26
  case qh26 =>
    obtain ⟨y0, y1⟩ := HF.out W hW
    go_light
    go_simp
    rfl
  simp only [Act.put, List.setIfInBounds_toArray, List.set_cons_zero, List.set_cons_succ]
  refine r_val (v := ?qv27) (by kernel_rfl) (fun W hW => ?qh27) ?qr27
  case qh27 =>
    go_light
    go_simp
    rfl
  simp only [Act.put, List.setIfInBounds_toArray, List.set_cons_zero, List.set_cons_succ]
  refine r_val (v := ?qv28) (by kernel_rfl) (fun W hW => ?qh28) ?qr28
  case qh28 =>
    go_light
    go_simp
    rfl
  simp only [Act.put, List.setIfInBounds_toArray, List.set_cons_zero, List.set_cons_succ]
  refine r_val (v := ?qv29) (by kernel_rfl) (fun W hW => ?qh29) ?qr29
  case qh29 =>
    go_light
    go_simp
    rfl
  simp only [Act.put, List.setIfInBounds_toArray, List.set_cons_zero, List.set_cons_succ]
  refine r_val (v := ?qv30) (by kernel_rfl) (fun W hW => ?qh30) ?qr30
  case qh30 =>
    go_light
    go_simp
    rfl
  simp only [Act.put, List.setIfInBounds_toArray, List.set_cons_zero, List.set_cons_succ]
  refine r_skip (by kernel_rfl) ?_
  simp only [Act.put, List.setIfInBounds_toArray, List.set_cons_zero, List.set_cons_succ]
  refine r_skip (by kernel_rfl) ?_
  simp only [Act.put, List.setIfInBounds_toArray, List.set_cons_zero, List.set_cons_succ]
  refine r_skip (by kernel_rfl) ?_
  simp only [Act.put, List.setIfInBounds_toArray, List.set_cons_zero, List.set_cons_succ]
  refine r_skip (by kernel_rfl) ?_
  simp only [Act.put, List.setIfInBounds_toArray, List.set_cons_zero, List.set_cons_succ]
  refine r_skip (by kernel_rfl) ?_
  simp only [Act.put, List.setIfInBounds_toArray, List.set_cons_zero, List.set_cons_succ]
  refine r_skip (by kernel_rfl) ?_
  simp only [Act.put, List.setIfInBounds_toArray, List.set_cons_zero, List.set_cons_succ]
  refine r_skip (by kernel_rfl) ?_
  simp only [Act.put, List.setIfInBounds_toArray, List.set_cons_zero, List.set_cons_succ]
  refine r_skip (by kernel_rfl) ?_
  simp only [Act.put, List.setIfInBounds_toArray, List.set_cons_zero, List.set_cons_succ]
  refine r_skip (by kernel_rfl) ?_
  simp only [Act.put, List.setIfInBounds_toArray, List.set_cons_zero, List.set_cons_succ]
  refine r_skip (by kernel_rfl) ?_
  simp only [Act.put, List.setIfInBounds_toArray, List.set_cons_zero, List.set_cons_succ]
  refine r_skip (by kernel_rfl) ?_
  simp only [Act.put, List.setIfInBounds_toArray, List.set_cons_zero, List.set_cons_succ]
  refine r_skip (by kernel_rfl) ?_
  simp only [Act.put, List.setIfInBounds_toArray, List.set_cons_zero, List.set_cons_succ]
  refine r_skip (by kernel_rfl) ?_
  simp only [Act.put, List.setIfInBounds_toArray, List.set_cons_zero, List.set_cons_succ]
  refine r_val (v := ?qv31) (by kernel_rfl) (fun W hW => ?qh31) ?qr31
  case qh31 =>
    go_light
    go_simp
    rfl
  simp only [Act.put, List.setIfInBounds_toArray, List.set_cons_zero, List.set_cons_succ]
  refine r_nil ?_
  intro w1 hg1
  go_wp2
  go_ret
  exact ⟨rfl, hg1⟩

set_option maxRecDepth 100000 in
set_option maxHeartbeats 3200000 in
theorem rng_shut {w : World} {R n : Nat} {s : ByteArray} {q : Rs} (h : Rdr w R s n q) (hs : (s.size : Int) ≤ 4096) {c d : UInt8} {r : List UInt8} (hc : c.toNat = 45) (hq : q.rest = c :: d :: r) (hdd : d.toNat = 93) :
    Calls Try.prog 46 #[.pointer (some ⟨R, 0, none⟩)] w fun e w' => e = .returned (.bool false) ∧ Gr w w' := by
  have QI := fun w (h : Rdr w R s n q) => is_yes h hs 45 (by decide) (by rw [hq]; simp [headIs, hc])
  have hl := h.len
  have hr := h.rest
  rw [hq] at hl hr
  simp at hl
  have hd1' : (n : Int) + 1 < (s.size : Int) := by omega
  have hd1 : decide ((s.size : Int) ≤ (n : Int) + 1) = false := decide_eq_false (by omega)
  obtain ⟨hn1, hb1⟩ := drop_byte (s := s) (n := n + 1) (c := d) (r := r) (by rw [← List.drop_drop, hr]; rfl)
  have hwr := wrap_in ((n : Int) + 1) (by omega) (by omega)
  clear hl hr hq
  have hd : ((d.toNat : Int) == 93) = true := beq_iff_eq.2 (by omega)
  clear hdd
  have HF : Hid (∀ W, Gr w W → W.cell? ⟨R, 0, none⟩ = some (.string s) ∧ W.cell? ⟨R, 1, none⟩ = some (.int .i64 n)) := Lib.hid (fun W hW => ⟨(hW.cell (p := ⟨R, 0, none⟩) h.lt).trans h.c0, (hW.cell (p := ⟨R, 1, none⟩) h.lt).trans h.c1⟩)
  go_enter Try.func46, Try.ntmps46
  go_wp2
  refine region_R (by kernel_rfl) (by kernel_rfl) ?_
  refine r_val (v := ?qv32) (by kernel_rfl) (fun W hW => ?qh32) ?qr32
  case qh32 =>
    go_light
    go_simp
    rfl
  simp only [Act.put, List.setIfInBounds_toArray, List.set_cons_zero, List.set_cons_succ]
  refine r_val (v := ?qv33) (by kernel_rfl) (fun W hW => ?qh33) ?qr33
  case qh33 =>
    go_light
    go_simp
    rfl
  simp only [Act.put, List.setIfInBounds_toArray, List.set_cons_zero, List.set_cons_succ]
  refine r_val (v := ?qv34) (by kernel_rfl) (fun W hW => ?qh34) ?qr34
  case qh34 =>
    go_light
    go_simp
    rfl
  simp only [Act.put, List.setIfInBounds_toArray, List.set_cons_zero, List.set_cons_succ]
  refine r_call (v := .bool true) (f := ?qf35) (args := ?qa35) (by kernel_rfl) (fun W hW => ?qh35) (fun W hW => ?qc35) ?qr35
  case qh35 =>
    go_light
    go_simp
    constructor
    · rfl
    · rfl
  case qc35 => exact (QI W (h.gr hW)).mono (fun e w' h => ⟨h.1, Gr.trans hW h.2⟩)
  simp only [Act.put, List.setIfInBounds_toArray, List.set_cons_zero, List.set_cons_succ]
  refine r_val (v := ?qv36) (by kernel_rfl) (fun W hW => ?qh36) ?qr36
  case qh36 =>
    go_light
    go_simp
    rfl
  simp only [Act.put, List.setIfInBounds_toArray, List.set_cons_zero, List.set_cons_succ]
  refine r_val (v := ?qv37) (by kernel_rfl) (fun W hW => ?qh37) ?qr37
  case qh37 =>
    go_light
    go_simp
    rfl
  simp only [Act.put, List.setIfInBounds_toArray, List.set_cons_zero, List.set_cons_succ]
  refine r_val (v := ?qv38) (by kernel_rfl) (fun W hW => ?qh38) ?qr38
  case qh38 =>
    go_light
    go_simp
    rfl
  simp only [Act.put, List.setIfInBounds_toArray, List.set_cons_zero, List.set_cons_succ]
  refine r_val (v := ?qv39) (by kernel_rfl) (fun W hW => ?qh39) ?qr39
  case qh39 =>
    go_light
    go_simp
    rfl
  simp only [Act.put, List.setIfInBounds_toArray, List.set_cons_zero, List.set_cons_succ]
  refine r_val (v := ?qv40) (by kernel_rfl) (fun W hW => ?qh40) ?qr40
  case qh40 =>
    go_light
    go_simp
    rfl
  simp only [Act.put, List.setIfInBounds_toArray, List.set_cons_zero, List.set_cons_succ]
  refine r_val (v := ?qv41) (by kernel_rfl) (fun W hW => ?qh41) ?qr41
  case qh41 =>
    go_light
    go_simp
    rfl
  simp only [Act.put, List.setIfInBounds_toArray, List.set_cons_zero, List.set_cons_succ]
  refine r_val (v := ?qv42) (by kernel_rfl) (fun W hW => ?qh42) ?qr42
  case qh42 =>
    obtain ⟨y0, y1⟩ := HF.out W hW
    go_light
    go_simp
    rfl
  simp only [Act.put, List.setIfInBounds_toArray, List.set_cons_zero, List.set_cons_succ]
  refine r_val (v := ?qv43) (by kernel_rfl) (fun W hW => ?qh43) ?qr43
  case qh43 =>
    go_light
    go_simp
    rfl
  simp only [Act.put, List.setIfInBounds_toArray, List.set_cons_zero, List.set_cons_succ]
  refine r_val (v := ?qv44) (by kernel_rfl) (fun W hW => ?qh44) ?qr44
  case qh44 =>
    go_light
    go_simp
    rfl
  simp only [Act.put, List.setIfInBounds_toArray, List.set_cons_zero, List.set_cons_succ]
  refine r_val (v := ?qv45) (by kernel_rfl) (fun W hW => ?qh45) ?qr45
  case qh45 =>
    go_light
    go_simp
    rfl
  simp only [Act.put, List.setIfInBounds_toArray, List.set_cons_zero, List.set_cons_succ]
  refine r_val (v := ?qv46) (by kernel_rfl) (fun W hW => ?qh46) ?qr46
  case qh46 =>
    go_light
    go_simp
    rfl
  simp only [Act.put, List.setIfInBounds_toArray, List.set_cons_zero, List.set_cons_succ]
  refine r_val (v := ?qv47) (by kernel_rfl) (fun W hW => ?qh47) ?qr47
  case qh47 =>
    go_light
    go_simp
    rfl
  simp only [Act.put, List.setIfInBounds_toArray, List.set_cons_zero, List.set_cons_succ]
  refine r_val (v := ?qv48) (by kernel_rfl) (fun W hW => ?qh48) ?qr48
  case qh48 =>
    obtain ⟨y0, y1⟩ := HF.out W hW
    go_light
    go_simp
    rfl
  simp only [Act.put, List.setIfInBounds_toArray, List.set_cons_zero, List.set_cons_succ]
  refine r_val (v := ?qv49) (by kernel_rfl) (fun W hW => ?qh49) ?qr49
  case qh49 =>
    go_light
    go_simp
    rfl
  simp only [Act.put, List.setIfInBounds_toArray, List.set_cons_zero, List.set_cons_succ]
  refine r_val (v := ?qv50) (by kernel_rfl) (fun W hW => ?qh50) ?qr50
  case qh50 =>
    go_light
    go_simp
    rfl
  simp only [Act.put, List.setIfInBounds_toArray, List.set_cons_zero, List.set_cons_succ]
  refine r_val (v := ?qv51) (by kernel_rfl) (fun W hW => ?qh51) ?qr51
  case qh51 =>
    go_light
    go_simp
    rfl
  simp only [Act.put, List.setIfInBounds_toArray, List.set_cons_zero, List.set_cons_succ]
  refine r_val (v := ?qv52) (by kernel_rfl) (fun W hW => ?qh52) ?qr52
  case qh52 =>
    go_light
    go_simp
    rfl
  simp only [Act.put, List.setIfInBounds_toArray, List.set_cons_zero, List.set_cons_succ]
  refine r_val (v := ?qv53) (by kernel_rfl) (fun W hW => ?qh53) ?qr53
  case qh53 =>
    go_light
    go_simp
    rfl
  simp only [Act.put, List.setIfInBounds_toArray, List.set_cons_zero, List.set_cons_succ]
  refine r_val (v := ?qv54) (by kernel_rfl) (fun W hW => ?qh54) ?qr54
  case qh54 =>
    go_light
    go_simp
    rfl
  simp only [Act.put, List.setIfInBounds_toArray, List.set_cons_zero, List.set_cons_succ]
  refine r_val (v := ?qv55) (by kernel_rfl) (fun W hW => ?qh55) ?qr55
  case qh55 =>
    go_light
    go_simp
    rfl
  simp only [Act.put, List.setIfInBounds_toArray, List.set_cons_zero, List.set_cons_succ]
  refine r_val (v := ?qv56) (by kernel_rfl) (fun W hW => ?qh56) ?qr56
  case qh56 =>
    go_light
    go_simp
    rfl
  simp only [Act.put, List.setIfInBounds_toArray, List.set_cons_zero, List.set_cons_succ]
  refine r_val (v := ?qv57) (by kernel_rfl) (fun W hW => ?qh57) ?qr57
  case qh57 =>
    obtain ⟨y0, y1⟩ := HF.out W hW
    go_light
    go_simp
    rfl
  simp only [Act.put, List.setIfInBounds_toArray, List.set_cons_zero, List.set_cons_succ]
  refine r_val (v := ?qv58) (by kernel_rfl) (fun W hW => ?qh58) ?qr58
  case qh58 =>
    go_light
    go_simp
    rfl
  simp only [Act.put, List.setIfInBounds_toArray, List.set_cons_zero, List.set_cons_succ]
  refine r_val (v := ?qv59) (by kernel_rfl) (fun W hW => ?qh59) ?qr59
  case qh59 =>
    go_light
    go_simp
    rfl
  simp only [Act.put, List.setIfInBounds_toArray, List.set_cons_zero, List.set_cons_succ]
  refine r_val (v := ?qv60) (by kernel_rfl) (fun W hW => ?qh60) ?qr60
  case qh60 =>
    go_light
    go_simp
    rfl
  simp only [Act.put, List.setIfInBounds_toArray, List.set_cons_zero, List.set_cons_succ]
  refine r_val (v := ?qv61) (by kernel_rfl) (fun W hW => ?qh61) ?qr61
  case qh61 =>
    go_light
    go_simp
    rfl
  simp only [Act.put, List.setIfInBounds_toArray, List.set_cons_zero, List.set_cons_succ]
  refine r_val (v := ?qv62) (by kernel_rfl) (fun W hW => ?qh62) ?qr62
  case qh62 =>
    obtain ⟨y0, y1⟩ := HF.out W hW
    go_light
    go_simp
    rfl
  simp only [Act.put, List.setIfInBounds_toArray, List.set_cons_zero, List.set_cons_succ]
  refine r_val (v := ?qv63) (by kernel_rfl) (fun W hW => ?qh63) ?qr63
  case qh63 =>
    go_light
    go_simp
    rfl
  simp only [Act.put, List.setIfInBounds_toArray, List.set_cons_zero, List.set_cons_succ]
  refine r_val (v := ?qv64) (by kernel_rfl) (fun W hW => ?qh64) ?qr64
  case qh64 =>
    go_light
    go_simp
    rfl
  simp only [Act.put, List.setIfInBounds_toArray, List.set_cons_zero, List.set_cons_succ]
  refine r_val (v := ?qv65) (by kernel_rfl) (fun W hW => ?qh65) ?qr65
  case qh65 =>
    go_light
    go_simp
    rfl
  simp only [Act.put, List.setIfInBounds_toArray, List.set_cons_zero, List.set_cons_succ]
  refine r_val (v := ?qv66) (by kernel_rfl) (fun W hW => ?qh66) ?qr66
  case qh66 =>
    go_light
    go_simp
    rfl
  simp only [Act.put, List.setIfInBounds_toArray, List.set_cons_zero, List.set_cons_succ]
  refine r_nil ?_
  intro w1 hg1
  go_wp2
  go_ret
  exact ⟨rfl, hg1⟩

set_option maxRecDepth 100000 in
set_option maxHeartbeats 3200000 in
theorem rng_plain {w : World} {R n : Nat} {s : ByteArray} {q : Rs} (h : Rdr w R s n q) (hs : (s.size : Int) ≤ 4096) {c d : UInt8} {r : List UInt8} (hc : c.toNat = 45) (hq : q.rest = c :: d :: r) (hdd : d.toNat ≠ 93) (hdd2 : d.toNat ≠ 92) :
    Calls Try.prog 46 #[.pointer (some ⟨R, 0, none⟩)] w fun e w' => e = .returned (.bool true) ∧ Gr w w' := by
  have QI := fun w (h : Rdr w R s n q) => is_yes h hs 45 (by decide) (by rw [hq]; simp [headIs, hc])
  have hl := h.len
  have hr := h.rest
  rw [hq] at hl hr
  simp at hl
  have hd1' : (n : Int) + 1 < (s.size : Int) := by omega
  have hd1 : decide ((s.size : Int) ≤ (n : Int) + 1) = false := decide_eq_false (by omega)
  obtain ⟨hn1, hb1⟩ := drop_byte (s := s) (n := n + 1) (c := d) (r := r) (by rw [← List.drop_drop, hr]; rfl)
  have hwr := wrap_in ((n : Int) + 1) (by omega) (by omega)
  clear hl hr hq
  have hd : ((d.toNat : Int) == 93) = false := beq_eq_false_iff_ne.2 (by omega)
  have hd2 : ((d.toNat : Int) != 92) = true := by simp [bne, beq_eq_false_iff_ne.2 (show (d.toNat : Int) ≠ 92 by omega)]
  clear hdd hdd2
  have HF : Hid (∀ W, Gr w W → W.cell? ⟨R, 0, none⟩ = some (.string s) ∧ W.cell? ⟨R, 1, none⟩ = some (.int .i64 n)) := Lib.hid (fun W hW => ⟨(hW.cell (p := ⟨R, 0, none⟩) h.lt).trans h.c0, (hW.cell (p := ⟨R, 1, none⟩) h.lt).trans h.c1⟩)
  go_enter Try.func46, Try.ntmps46
  go_wp2
  refine region_R (by kernel_rfl) (by kernel_rfl) ?_
  refine r_val (v := ?qv67) (by kernel_rfl) (fun W hW => ?qh67) ?qr67
  case qh67 =>
    go_light
    go_simp
    rfl
  simp only [Act.put, List.setIfInBounds_toArray, List.set_cons_zero, List.set_cons_succ]
  refine r_val (v := ?qv68) (by kernel_rfl) (fun W hW => ?qh68) ?qr68
  case qh68 =>
    go_light
    go_simp
    rfl
  simp only [Act.put, List.setIfInBounds_toArray, List.set_cons_zero, List.set_cons_succ]
  refine r_val (v := ?qv69) (by kernel_rfl) (fun W hW => ?qh69) ?qr69
  case qh69 =>
    go_light
    go_simp
    rfl
  simp only [Act.put, List.setIfInBounds_toArray, List.set_cons_zero, List.set_cons_succ]
  refine r_call (v := .bool true) (f := ?qf70) (args := ?qa70) (by kernel_rfl) (fun W hW => ?qh70) (fun W hW => ?qc70) ?qr70
  case qh70 =>
    go_light
    go_simp
    constructor
    · rfl
    · rfl
  case qc70 => exact (QI W (h.gr hW)).mono (fun e w' h => ⟨h.1, Gr.trans hW h.2⟩)
  simp only [Act.put, List.setIfInBounds_toArray, List.set_cons_zero, List.set_cons_succ]
  refine r_val (v := ?qv71) (by kernel_rfl) (fun W hW => ?qh71) ?qr71
  case qh71 =>
    go_light
    go_simp
    rfl
  simp only [Act.put, List.setIfInBounds_toArray, List.set_cons_zero, List.set_cons_succ]
  refine r_val (v := ?qv72) (by kernel_rfl) (fun W hW => ?qh72) ?qr72
  case qh72 =>
    go_light
    go_simp
    rfl
  simp only [Act.put, List.setIfInBounds_toArray, List.set_cons_zero, List.set_cons_succ]
  refine r_val (v := ?qv73) (by kernel_rfl) (fun W hW => ?qh73) ?qr73
  case qh73 =>
    go_light
    go_simp
    rfl
  simp only [Act.put, List.setIfInBounds_toArray, List.set_cons_zero, List.set_cons_succ]
  refine r_val (v := ?qv74) (by kernel_rfl) (fun W hW => ?qh74) ?qr74
  case qh74 =>
    go_light
    go_simp
    rfl
  simp only [Act.put, List.setIfInBounds_toArray, List.set_cons_zero, List.set_cons_succ]
  refine r_val (v := ?qv75) (by kernel_rfl) (fun W hW => ?qh75) ?qr75
  case qh75 =>
    go_light
    go_simp
    rfl
  simp only [Act.put, List.setIfInBounds_toArray, List.set_cons_zero, List.set_cons_succ]
  refine r_val (v := ?qv76) (by kernel_rfl) (fun W hW => ?qh76) ?qr76
  case qh76 =>
    go_light
    go_simp
    rfl
  simp only [Act.put, List.setIfInBounds_toArray, List.set_cons_zero, List.set_cons_succ]
  refine r_val (v := ?qv77) (by kernel_rfl) (fun W hW => ?qh77) ?qr77
  case qh77 =>
    obtain ⟨y0, y1⟩ := HF.out W hW
    go_light
    go_simp
    rfl
  simp only [Act.put, List.setIfInBounds_toArray, List.set_cons_zero, List.set_cons_succ]
  refine r_val (v := ?qv78) (by kernel_rfl) (fun W hW => ?qh78) ?qr78
  case qh78 =>
    go_light
    go_simp
    rfl
  simp only [Act.put, List.setIfInBounds_toArray, List.set_cons_zero, List.set_cons_succ]
  refine r_val (v := ?qv79) (by kernel_rfl) (fun W hW => ?qh79) ?qr79
  case qh79 =>
    go_light
    go_simp
    rfl
  simp only [Act.put, List.setIfInBounds_toArray, List.set_cons_zero, List.set_cons_succ]
  refine r_val (v := ?qv80) (by kernel_rfl) (fun W hW => ?qh80) ?qr80
  case qh80 =>
    go_light
    go_simp
    rfl
  simp only [Act.put, List.setIfInBounds_toArray, List.set_cons_zero, List.set_cons_succ]
  refine r_val (v := ?qv81) (by kernel_rfl) (fun W hW => ?qh81) ?qr81
  case qh81 =>
    go_light
    go_simp
    rfl
  simp only [Act.put, List.setIfInBounds_toArray, List.set_cons_zero, List.set_cons_succ]
  refine r_val (v := ?qv82) (by kernel_rfl) (fun W hW => ?qh82) ?qr82
  case qh82 =>
    go_light
    go_simp
    rfl
  simp only [Act.put, List.setIfInBounds_toArray, List.set_cons_zero, List.set_cons_succ]
  refine r_val (v := ?qv83) (by kernel_rfl) (fun W hW => ?qh83) ?qr83
  case qh83 =>
    obtain ⟨y0, y1⟩ := HF.out W hW
    go_light
    go_simp
    rfl
  simp only [Act.put, List.setIfInBounds_toArray, List.set_cons_zero, List.set_cons_succ]
  refine r_val (v := ?qv84) (by kernel_rfl) (fun W hW => ?qh84) ?qr84
  case qh84 =>
    go_light
    go_simp
    rfl
  simp only [Act.put, List.setIfInBounds_toArray, List.set_cons_zero, List.set_cons_succ]
  refine r_val (v := ?qv85) (by kernel_rfl) (fun W hW => ?qh85) ?qr85
  case qh85 =>
    go_light
    go_simp
    rfl
  simp only [Act.put, List.setIfInBounds_toArray, List.set_cons_zero, List.set_cons_succ]
  refine r_val (v := ?qv86) (by kernel_rfl) (fun W hW => ?qh86) ?qr86
  case qh86 =>
    go_light
    go_simp
    rfl
  simp only [Act.put, List.setIfInBounds_toArray, List.set_cons_zero, List.set_cons_succ]
  refine r_val (v := ?qv87) (by kernel_rfl) (fun W hW => ?qh87) ?qr87
  case qh87 =>
    go_light
    go_simp
    rfl
  simp only [Act.put, List.setIfInBounds_toArray, List.set_cons_zero, List.set_cons_succ]
  refine r_val (v := ?qv88) (by kernel_rfl) (fun W hW => ?qh88) ?qr88
  case qh88 =>
    go_light
    go_simp
    rfl
  simp only [Act.put, List.setIfInBounds_toArray, List.set_cons_zero, List.set_cons_succ]
  refine r_val (v := ?qv89) (by kernel_rfl) (fun W hW => ?qh89) ?qr89
  case qh89 =>
    go_light
    go_simp
    rfl
  simp only [Act.put, List.setIfInBounds_toArray, List.set_cons_zero, List.set_cons_succ]
  refine r_val (v := ?qv90) (by kernel_rfl) (fun W hW => ?qh90) ?qr90
  case qh90 =>
    go_light
    go_simp
    rfl
  simp only [Act.put, List.setIfInBounds_toArray, List.set_cons_zero, List.set_cons_succ]
  refine r_val (v := ?qv91) (by kernel_rfl) (fun W hW => ?qh91) ?qr91
  case qh91 =>
    go_light
    go_simp
    rfl
  simp only [Act.put, List.setIfInBounds_toArray, List.set_cons_zero, List.set_cons_succ]
  refine r_val (v := ?qv92) (by kernel_rfl) (fun W hW => ?qh92) ?qr92
  case qh92 =>
    obtain ⟨y0, y1⟩ := HF.out W hW
    go_light
    go_simp
    rfl
  simp only [Act.put, List.setIfInBounds_toArray, List.set_cons_zero, List.set_cons_succ]
  refine r_val (v := ?qv93) (by kernel_rfl) (fun W hW => ?qh93) ?qr93
  case qh93 =>
    go_light
    go_simp
    rfl
  simp only [Act.put, List.setIfInBounds_toArray, List.set_cons_zero, List.set_cons_succ]
  refine r_val (v := ?qv94) (by kernel_rfl) (fun W hW => ?qh94) ?qr94
  case qh94 =>
    go_light
    go_simp
    rfl
  simp only [Act.put, List.setIfInBounds_toArray, List.set_cons_zero, List.set_cons_succ]
  refine r_val (v := ?qv95) (by kernel_rfl) (fun W hW => ?qh95) ?qr95
  case qh95 =>
    go_light
    go_simp
    rfl
  simp only [Act.put, List.setIfInBounds_toArray, List.set_cons_zero, List.set_cons_succ]
  refine r_val (v := ?qv96) (by kernel_rfl) (fun W hW => ?qh96) ?qr96
  case qh96 =>
    go_light
    go_simp
    rfl
  simp only [Act.put, List.setIfInBounds_toArray, List.set_cons_zero, List.set_cons_succ]
  refine r_val (v := ?qv97) (by kernel_rfl) (fun W hW => ?qh97) ?qr97
  case qh97 =>
    obtain ⟨y0, y1⟩ := HF.out W hW
    go_light
    go_simp
    rfl
  simp only [Act.put, List.setIfInBounds_toArray, List.set_cons_zero, List.set_cons_succ]
  refine r_val (v := ?qv98) (by kernel_rfl) (fun W hW => ?qh98) ?qr98
  case qh98 =>
    go_light
    go_simp
    rfl
  simp only [Act.put, List.setIfInBounds_toArray, List.set_cons_zero, List.set_cons_succ]
  refine r_val (v := ?qv99) (by kernel_rfl) (fun W hW => ?qh99) ?qr99
  case qh99 =>
    go_light
    go_simp
    rfl
  simp only [Act.put, List.setIfInBounds_toArray, List.set_cons_zero, List.set_cons_succ]
  refine r_val (v := ?qv100) (by kernel_rfl) (fun W hW => ?qh100) ?qr100
  case qh100 =>
    go_light
    go_simp
    rfl
  simp only [Act.put, List.setIfInBounds_toArray, List.set_cons_zero, List.set_cons_succ]
  refine r_val (v := ?qv101) (by kernel_rfl) (fun W hW => ?qh101) ?qr101
  case qh101 =>
    go_light
    go_simp
    rfl
  simp only [Act.put, List.setIfInBounds_toArray, List.set_cons_zero, List.set_cons_succ]
  refine r_nil ?_
  intro w1 hg1
  have h1 := h.gr hg1
  have HF1 : Hid (∀ W, Gr w1 W → W.cell? ⟨R, 0, none⟩ = some (.string s) ∧ W.cell? ⟨R, 1, none⟩ = some (.int .i64 n)) := Lib.hid (fun W hW => ⟨(hW.cell (p := ⟨R, 0, none⟩) h1.lt).trans h1.c0, (hW.cell (p := ⟨R, 1, none⟩) h1.lt).trans h1.c1⟩)
  clear HF
  have HF := HF1
  clear HF1
  go_wp2
  refine region_R (by kernel_rfl) (by kernel_rfl) ?_
  refine r_val (v := ?qv102) (by kernel_rfl) (fun W hW => ?qh102) ?qr102
  case qh102 =>
    go_light
    go_simp
    rfl
  simp only [Act.put, List.setIfInBounds_toArray, List.set_cons_zero, List.set_cons_succ]
  refine r_val (v := ?qv103) (by kernel_rfl) (fun W hW => ?qh103) ?qr103
  case qh103 =>
    go_light
    go_simp
    rfl
  simp only [Act.put, List.setIfInBounds_toArray, List.set_cons_zero, List.set_cons_succ]
  refine r_val (v := ?qv104) (by kernel_rfl) (fun W hW => ?qh104) ?qr104
  case qh104 =>
    go_light
    go_simp
    rfl
  simp only [Act.put, List.setIfInBounds_toArray, List.set_cons_zero, List.set_cons_succ]
  refine r_val (v := ?qv105) (by kernel_rfl) (fun W hW => ?qh105) ?qr105
  case qh105 =>
    go_light
    go_simp
    rfl
  simp only [Act.put, List.setIfInBounds_toArray, List.set_cons_zero, List.set_cons_succ]
  refine r_val (v := ?qv106) (by kernel_rfl) (fun W hW => ?qh106) ?qr106
  case qh106 =>
    obtain ⟨y0, y1⟩ := HF.out W hW
    go_light
    go_simp
    rfl
  simp only [Act.put, List.setIfInBounds_toArray, List.set_cons_zero, List.set_cons_succ]
  refine r_val (v := ?qv107) (by kernel_rfl) (fun W hW => ?qh107) ?qr107
  case qh107 =>
    go_light
    go_simp
    rfl
  simp only [Act.put, List.setIfInBounds_toArray, List.set_cons_zero, List.set_cons_succ]
  refine r_val (v := ?qv108) (by kernel_rfl) (fun W hW => ?qh108) ?qr108
  case qh108 =>
    go_light
    go_simp
    rfl
  simp only [Act.put, List.setIfInBounds_toArray, List.set_cons_zero, List.set_cons_succ]
  refine r_val (v := ?qv109) (by kernel_rfl) (fun W hW => ?qh109) ?qr109
  case qh109 =>
    go_light
    go_simp
    rfl
  simp only [Act.put, List.setIfInBounds_toArray, List.set_cons_zero, List.set_cons_succ]
  refine r_val (v := ?qv110) (by kernel_rfl) (fun W hW => ?qh110) ?qr110
  case qh110 =>
    go_light
    go_simp
    rfl
  simp only [Act.put, List.setIfInBounds_toArray, List.set_cons_zero, List.set_cons_succ]
  refine r_val (v := ?qv111) (by kernel_rfl) (fun W hW => ?qh111) ?qr111
  case qh111 =>
    obtain ⟨y0, y1⟩ := HF.out W hW
    go_light
    go_simp
    rfl
  simp only [Act.put, List.setIfInBounds_toArray, List.set_cons_zero, List.set_cons_succ]
  refine r_val (v := ?qv112) (by kernel_rfl) (fun W hW => ?qh112) ?qr112
  case qh112 =>
    go_light
    go_simp
    rfl
  simp only [Act.put, List.setIfInBounds_toArray, List.set_cons_zero, List.set_cons_succ]
  refine r_val (v := ?qv113) (by kernel_rfl) (fun W hW => ?qh113) ?qr113
  case qh113 =>
    go_light
    go_simp
    rfl
  simp only [Act.put, List.setIfInBounds_toArray, List.set_cons_zero, List.set_cons_succ]
  refine r_val (v := ?qv114) (by kernel_rfl) (fun W hW => ?qh114) ?qr114
  case qh114 =>
    go_light
    go_simp
    rfl
  simp only [Act.put, List.setIfInBounds_toArray, List.set_cons_zero, List.set_cons_succ]
  refine r_val (v := ?qv115) (by kernel_rfl) (fun W hW => ?qh115) ?qr115
  case qh115 =>
    go_light
    go_simp
    rfl
  simp only [Act.put, List.setIfInBounds_toArray, List.set_cons_zero, List.set_cons_succ]
  refine r_skip (by kernel_rfl) ?_
  simp only [Act.put, List.setIfInBounds_toArray, List.set_cons_zero, List.set_cons_succ]
  refine r_skip (by kernel_rfl) ?_
  simp only [Act.put, List.setIfInBounds_toArray, List.set_cons_zero, List.set_cons_succ]
  refine r_skip (by kernel_rfl) ?_
  simp only [Act.put, List.setIfInBounds_toArray, List.set_cons_zero, List.set_cons_succ]
  refine r_skip (by kernel_rfl) ?_
  simp only [Act.put, List.setIfInBounds_toArray, List.set_cons_zero, List.set_cons_succ]
  refine r_skip (by kernel_rfl) ?_
  simp only [Act.put, List.setIfInBounds_toArray, List.set_cons_zero, List.set_cons_succ]
  refine r_skip (by kernel_rfl) ?_
  simp only [Act.put, List.setIfInBounds_toArray, List.set_cons_zero, List.set_cons_succ]
  refine r_skip (by kernel_rfl) ?_
  simp only [Act.put, List.setIfInBounds_toArray, List.set_cons_zero, List.set_cons_succ]
  refine r_skip (by kernel_rfl) ?_
  simp only [Act.put, List.setIfInBounds_toArray, List.set_cons_zero, List.set_cons_succ]
  refine r_skip (by kernel_rfl) ?_
  simp only [Act.put, List.setIfInBounds_toArray, List.set_cons_zero, List.set_cons_succ]
  refine r_skip (by kernel_rfl) ?_
  simp only [Act.put, List.setIfInBounds_toArray, List.set_cons_zero, List.set_cons_succ]
  refine r_skip (by kernel_rfl) ?_
  simp only [Act.put, List.setIfInBounds_toArray, List.set_cons_zero, List.set_cons_succ]
  refine r_skip (by kernel_rfl) ?_
  simp only [Act.put, List.setIfInBounds_toArray, List.set_cons_zero, List.set_cons_succ]
  refine r_skip (by kernel_rfl) ?_
  simp only [Act.put, List.setIfInBounds_toArray, List.set_cons_zero, List.set_cons_succ]
  refine r_val (v := ?qv116) (by kernel_rfl) (fun W hW => ?qh116) ?qr116
  case qh116 =>
    go_light
    go_simp
    rfl
  simp only [Act.put, List.setIfInBounds_toArray, List.set_cons_zero, List.set_cons_succ]
  refine r_nil ?_
  intro w2 hg2
  go_wp2
  go_ret
  exact ⟨rfl, (Gr.trans hg1 hg2)⟩

set_option maxRecDepth 100000 in
set_option maxHeartbeats 3200000 in
theorem rng_last {w : World} {R n : Nat} {s : ByteArray} {q : Rs} (h : Rdr w R s n q) (hs : (s.size : Int) ≤ 4096) {c d : UInt8} (hc : c.toNat = 45) (hq : q.rest = [c, d]) (hdd : d.toNat = 92) :
    Calls Try.prog 46 #[.pointer (some ⟨R, 0, none⟩)] w fun e w' => e = .returned (.bool true) ∧ Gr w w' := by
  have QI := fun w (h : Rdr w R s n q) => is_yes h hs 45 (by decide) (by rw [hq]; simp [headIs, hc])
  have hl := h.len
  have hr := h.rest
  rw [hq] at hl hr
  simp at hl
  have hd1' : (n : Int) + 1 < (s.size : Int) := by omega
  have hd1 : decide ((s.size : Int) ≤ (n : Int) + 1) = false := decide_eq_false (by omega)
  obtain ⟨hn1, hb1⟩ := drop_byte (s := s) (n := n + 1) (c := d) (r := []) (by rw [← List.drop_drop, hr]; rfl)
  have hwr := wrap_in ((n : Int) + 1) (by omega) (by omega)
  have hd3 : (s.size : Int) ≤ (n : Int) + 2 := by omega
  have hwr2 := wrap_in ((n : Int) + 2) (by omega) (by omega)
  clear hl hr hq
  have hd : ((d.toNat : Int) == 93) = false := beq_eq_false_iff_ne.2 (by omega)
  have hd2 : ((d.toNat : Int) != 92) = false := by rw [hdd]; rfl
  clear hdd
  have HF : Hid (∀ W, Gr w W → W.cell? ⟨R, 0, none⟩ = some (.string s) ∧ W.cell? ⟨R, 1, none⟩ = some (.int .i64 n)) := Lib.hid (fun W hW => ⟨(hW.cell (p := ⟨R, 0, none⟩) h.lt).trans h.c0, (hW.cell (p := ⟨R, 1, none⟩) h.lt).trans h.c1⟩)
  go_enter Try.func46, Try.ntmps46
  go_wp2
  refine region_R (by kernel_rfl) (by kernel_rfl) ?_
  refine r_val (v := ?qv117) (by kernel_rfl) (fun W hW => ?qh117) ?qr117
  case qh117 =>
    go_light
    go_simp
    rfl
  simp only [Act.put, List.setIfInBounds_toArray, List.set_cons_zero, List.set_cons_succ]
  refine r_val (v := ?qv118) (by kernel_rfl) (fun W hW => ?qh118) ?qr118
  case qh118 =>
    go_light
    go_simp
    rfl
  simp only [Act.put, List.setIfInBounds_toArray, List.set_cons_zero, List.set_cons_succ]
  refine r_val (v := ?qv119) (by kernel_rfl) (fun W hW => ?qh119) ?qr119
  case qh119 =>
    go_light
    go_simp
    rfl
  simp only [Act.put, List.setIfInBounds_toArray, List.set_cons_zero, List.set_cons_succ]
  refine r_call (v := .bool true) (f := ?qf120) (args := ?qa120) (by kernel_rfl) (fun W hW => ?qh120) (fun W hW => ?qc120) ?qr120
  case qh120 =>
    go_light
    go_simp
    constructor
    · rfl
    · rfl
  case qc120 => exact (QI W (h.gr hW)).mono (fun e w' h => ⟨h.1, Gr.trans hW h.2⟩)
  simp only [Act.put, List.setIfInBounds_toArray, List.set_cons_zero, List.set_cons_succ]
  refine r_val (v := ?qv121) (by kernel_rfl) (fun W hW => ?qh121) ?qr121
  case qh121 =>
    go_light
    go_simp
    rfl
  simp only [Act.put, List.setIfInBounds_toArray, List.set_cons_zero, List.set_cons_succ]
  refine r_val (v := ?qv122) (by kernel_rfl) (fun W hW => ?qh122) ?qr122
  case qh122 =>
    go_light
    go_simp
    rfl
  simp only [Act.put, List.setIfInBounds_toArray, List.set_cons_zero, List.set_cons_succ]
  refine r_val (v := ?qv123) (by kernel_rfl) (fun W hW => ?qh123) ?qr123
  case qh123 =>
    go_light
    go_simp
    rfl
  simp only [Act.put, List.setIfInBounds_toArray, List.set_cons_zero, List.set_cons_succ]
  refine r_val (v := ?qv124) (by kernel_rfl) (fun W hW => ?qh124) ?qr124
  case qh124 =>
    go_light
    go_simp
    rfl
  simp only [Act.put, List.setIfInBounds_toArray, List.set_cons_zero, List.set_cons_succ]
  refine r_val (v := ?qv125) (by kernel_rfl) (fun W hW => ?qh125) ?qr125
  case qh125 =>
    go_light
    go_simp
    rfl
  simp only [Act.put, List.setIfInBounds_toArray, List.set_cons_zero, List.set_cons_succ]
  refine r_val (v := ?qv126) (by kernel_rfl) (fun W hW => ?qh126) ?qr126
  case qh126 =>
    go_light
    go_simp
    rfl
  simp only [Act.put, List.setIfInBounds_toArray, List.set_cons_zero, List.set_cons_succ]
  refine r_val (v := ?qv127) (by kernel_rfl) (fun W hW => ?qh127) ?qr127
  case qh127 =>
    obtain ⟨y0, y1⟩ := HF.out W hW
    go_light
    go_simp
    rfl
  simp only [Act.put, List.setIfInBounds_toArray, List.set_cons_zero, List.set_cons_succ]
  refine r_val (v := ?qv128) (by kernel_rfl) (fun W hW => ?qh128) ?qr128
  case qh128 =>
    go_light
    go_simp
    rfl
  simp only [Act.put, List.setIfInBounds_toArray, List.set_cons_zero, List.set_cons_succ]
  refine r_val (v := ?qv129) (by kernel_rfl) (fun W hW => ?qh129) ?qr129
  case qh129 =>
    go_light
    go_simp
    rfl
  simp only [Act.put, List.setIfInBounds_toArray, List.set_cons_zero, List.set_cons_succ]
  refine r_val (v := ?qv130) (by kernel_rfl) (fun W hW => ?qh130) ?qr130
  case qh130 =>
    go_light
    go_simp
    rfl
  simp only [Act.put, List.setIfInBounds_toArray, List.set_cons_zero, List.set_cons_succ]
  refine r_val (v := ?qv131) (by kernel_rfl) (fun W hW => ?qh131) ?qr131
  case qh131 =>
    go_light
    go_simp
    rfl
  simp only [Act.put, List.setIfInBounds_toArray, List.set_cons_zero, List.set_cons_succ]
  refine r_val (v := ?qv132) (by kernel_rfl) (fun W hW => ?qh132) ?qr132
  case qh132 =>
    go_light
    go_simp
    rfl
  simp only [Act.put, List.setIfInBounds_toArray, List.set_cons_zero, List.set_cons_succ]
  refine r_val (v := ?qv133) (by kernel_rfl) (fun W hW => ?qh133) ?qr133
  case qh133 =>
    obtain ⟨y0, y1⟩ := HF.out W hW
    go_light
    go_simp
    rfl
  simp only [Act.put, List.setIfInBounds_toArray, List.set_cons_zero, List.set_cons_succ]
  refine r_val (v := ?qv134) (by kernel_rfl) (fun W hW => ?qh134) ?qr134
  case qh134 =>
    go_light
    go_simp
    rfl
  simp only [Act.put, List.setIfInBounds_toArray, List.set_cons_zero, List.set_cons_succ]
  refine r_val (v := ?qv135) (by kernel_rfl) (fun W hW => ?qh135) ?qr135
  case qh135 =>
    go_light
    go_simp
    rfl
  simp only [Act.put, List.setIfInBounds_toArray, List.set_cons_zero, List.set_cons_succ]
  refine r_val (v := ?qv136) (by kernel_rfl) (fun W hW => ?qh136) ?qr136
  case qh136 =>
    go_light
    go_simp
    rfl
  simp only [Act.put, List.setIfInBounds_toArray, List.set_cons_zero, List.set_cons_succ]
  refine r_val (v := ?qv137) (by kernel_rfl) (fun W hW => ?qh137) ?qr137
  case qh137 =>
    go_light
    go_simp
    rfl
  simp only [Act.put, List.setIfInBounds_toArray, List.set_cons_zero, List.set_cons_succ]
  refine r_val (v := ?qv138) (by kernel_rfl) (fun W hW => ?qh138) ?qr138
  case qh138 =>
    go_light
    go_simp
    rfl
  simp only [Act.put, List.setIfInBounds_toArray, List.set_cons_zero, List.set_cons_succ]
  refine r_val (v := ?qv139) (by kernel_rfl) (fun W hW => ?qh139) ?qr139
  case qh139 =>
    go_light
    go_simp
    rfl
  simp only [Act.put, List.setIfInBounds_toArray, List.set_cons_zero, List.set_cons_succ]
  refine r_val (v := ?qv140) (by kernel_rfl) (fun W hW => ?qh140) ?qr140
  case qh140 =>
    go_light
    go_simp
    rfl
  simp only [Act.put, List.setIfInBounds_toArray, List.set_cons_zero, List.set_cons_succ]
  refine r_val (v := ?qv141) (by kernel_rfl) (fun W hW => ?qh141) ?qr141
  case qh141 =>
    go_light
    go_simp
    rfl
  simp only [Act.put, List.setIfInBounds_toArray, List.set_cons_zero, List.set_cons_succ]
  refine r_val (v := ?qv142) (by kernel_rfl) (fun W hW => ?qh142) ?qr142
  case qh142 =>
    obtain ⟨y0, y1⟩ := HF.out W hW
    go_light
    go_simp
    rfl
  simp only [Act.put, List.setIfInBounds_toArray, List.set_cons_zero, List.set_cons_succ]
  refine r_val (v := ?qv143) (by kernel_rfl) (fun W hW => ?qh143) ?qr143
  case qh143 =>
    go_light
    go_simp
    rfl
  simp only [Act.put, List.setIfInBounds_toArray, List.set_cons_zero, List.set_cons_succ]
  refine r_val (v := ?qv144) (by kernel_rfl) (fun W hW => ?qh144) ?qr144
  case qh144 =>
    go_light
    go_simp
    rfl
  simp only [Act.put, List.setIfInBounds_toArray, List.set_cons_zero, List.set_cons_succ]
  refine r_val (v := ?qv145) (by kernel_rfl) (fun W hW => ?qh145) ?qr145
  case qh145 =>
    go_light
    go_simp
    rfl
  simp only [Act.put, List.setIfInBounds_toArray, List.set_cons_zero, List.set_cons_succ]
  refine r_val (v := ?qv146) (by kernel_rfl) (fun W hW => ?qh146) ?qr146
  case qh146 =>
    go_light
    go_simp
    rfl
  simp only [Act.put, List.setIfInBounds_toArray, List.set_cons_zero, List.set_cons_succ]
  refine r_val (v := ?qv147) (by kernel_rfl) (fun W hW => ?qh147) ?qr147
  case qh147 =>
    obtain ⟨y0, y1⟩ := HF.out W hW
    go_light
    go_simp
    rfl
  simp only [Act.put, List.setIfInBounds_toArray, List.set_cons_zero, List.set_cons_succ]
  refine r_val (v := ?qv148) (by kernel_rfl) (fun W hW => ?qh148) ?qr148
  case qh148 =>
    go_light
    go_simp
    rfl
  simp only [Act.put, List.setIfInBounds_toArray, List.set_cons_zero, List.set_cons_succ]
  refine r_val (v := ?qv149) (by kernel_rfl) (fun W hW => ?qh149) ?qr149
  case qh149 =>
    go_light
    go_simp
    rfl
  simp only [Act.put, List.setIfInBounds_toArray, List.set_cons_zero, List.set_cons_succ]
  refine r_val (v := ?qv150) (by kernel_rfl) (fun W hW => ?qh150) ?qr150
  case qh150 =>
    go_light
    go_simp
    rfl
  simp only [Act.put, List.setIfInBounds_toArray, List.set_cons_zero, List.set_cons_succ]
  refine r_val (v := ?qv151) (by kernel_rfl) (fun W hW => ?qh151) ?qr151
  case qh151 =>
    go_light
    go_simp
    rfl
  simp only [Act.put, List.setIfInBounds_toArray, List.set_cons_zero, List.set_cons_succ]
  refine r_nil ?_
  intro w1 hg1
  have h1 := h.gr hg1
  have HF1 : Hid (∀ W, Gr w1 W → W.cell? ⟨R, 0, none⟩ = some (.string s) ∧ W.cell? ⟨R, 1, none⟩ = some (.int .i64 n)) := Lib.hid (fun W hW => ⟨(hW.cell (p := ⟨R, 0, none⟩) h1.lt).trans h1.c0, (hW.cell (p := ⟨R, 1, none⟩) h1.lt).trans h1.c1⟩)
  clear HF
  have HF := HF1
  clear HF1
  go_wp2
  refine region_R (by kernel_rfl) (by kernel_rfl) ?_
  refine r_val (v := ?qv152) (by kernel_rfl) (fun W hW => ?qh152) ?qr152
  case qh152 =>
    go_light
    go_simp
    rfl
  simp only [Act.put, List.setIfInBounds_toArray, List.set_cons_zero, List.set_cons_succ]
  refine r_val (v := ?qv153) (by kernel_rfl) (fun W hW => ?qh153) ?qr153
  case qh153 =>
    go_light
    go_simp
    rfl
  simp only [Act.put, List.setIfInBounds_toArray, List.set_cons_zero, List.set_cons_succ]
  refine r_val (v := ?qv154) (by kernel_rfl) (fun W hW => ?qh154) ?qr154
  case qh154 =>
    go_light
    go_simp
    rfl
  simp only [Act.put, List.setIfInBounds_toArray, List.set_cons_zero, List.set_cons_succ]
  refine r_val (v := ?qv155) (by kernel_rfl) (fun W hW => ?qh155) ?qr155
  case qh155 =>
    go_light
    go_simp
    rfl
  simp only [Act.put, List.setIfInBounds_toArray, List.set_cons_zero, List.set_cons_succ]
  refine r_val (v := ?qv156) (by kernel_rfl) (fun W hW => ?qh156) ?qr156
  case qh156 =>
    obtain ⟨y0, y1⟩ := HF.out W hW
    go_light
    go_simp
    rfl
  simp only [Act.put, List.setIfInBounds_toArray, List.set_cons_zero, List.set_cons_succ]
  refine r_val (v := ?qv157) (by kernel_rfl) (fun W hW => ?qh157) ?qr157
  case qh157 =>
    go_light
    go_simp
    rfl
  simp only [Act.put, List.setIfInBounds_toArray, List.set_cons_zero, List.set_cons_succ]
  refine r_val (v := ?qv158) (by kernel_rfl) (fun W hW => ?qh158) ?qr158
  case qh158 =>
    go_light
    go_simp
    rfl
  simp only [Act.put, List.setIfInBounds_toArray, List.set_cons_zero, List.set_cons_succ]
  refine r_val (v := ?qv159) (by kernel_rfl) (fun W hW => ?qh159) ?qr159
  case qh159 =>
    go_light
    go_simp
    rfl
  simp only [Act.put, List.setIfInBounds_toArray, List.set_cons_zero, List.set_cons_succ]
  refine r_val (v := ?qv160) (by kernel_rfl) (fun W hW => ?qh160) ?qr160
  case qh160 =>
    go_light
    go_simp
    rfl
  simp only [Act.put, List.setIfInBounds_toArray, List.set_cons_zero, List.set_cons_succ]
  refine r_val (v := ?qv161) (by kernel_rfl) (fun W hW => ?qh161) ?qr161
  case qh161 =>
    obtain ⟨y0, y1⟩ := HF.out W hW
    go_light
    go_simp
    rfl
  simp only [Act.put, List.setIfInBounds_toArray, List.set_cons_zero, List.set_cons_succ]
  refine r_val (v := ?qv162) (by kernel_rfl) (fun W hW => ?qh162) ?qr162
  case qh162 =>
    go_light
    go_simp
    rfl
  simp only [Act.put, List.setIfInBounds_toArray, List.set_cons_zero, List.set_cons_succ]
  refine r_val (v := ?qv163) (by kernel_rfl) (fun W hW => ?qh163) ?qr163
  case qh163 =>
    go_light
    go_simp
    rfl
  simp only [Act.put, List.setIfInBounds_toArray, List.set_cons_zero, List.set_cons_succ]
  refine r_val (v := ?qv164) (by kernel_rfl) (fun W hW => ?qh164) ?qr164
  case qh164 =>
    go_light
    go_simp
    rfl
  simp only [Act.put, List.setIfInBounds_toArray, List.set_cons_zero, List.set_cons_succ]
  refine r_val (v := ?qv165) (by kernel_rfl) (fun W hW => ?qh165) ?qr165
  case qh165 =>
    go_light
    go_simp
    rfl
  simp only [Act.put, List.setIfInBounds_toArray, List.set_cons_zero, List.set_cons_succ]
  refine r_val (v := ?qv166) (by kernel_rfl) (fun W hW => ?qh166) ?qr166
  case qh166 =>
    go_light
    go_simp
    rfl
  simp only [Act.put, List.setIfInBounds_toArray, List.set_cons_zero, List.set_cons_succ]
  refine r_val (v := ?qv167) (by kernel_rfl) (fun W hW => ?qh167) ?qr167
  case qh167 =>
    go_light
    go_simp
    rfl
  simp only [Act.put, List.setIfInBounds_toArray, List.set_cons_zero, List.set_cons_succ]
  refine r_val (v := ?qv168) (by kernel_rfl) (fun W hW => ?qh168) ?qr168
  case qh168 =>
    go_light
    go_simp
    rfl
  simp only [Act.put, List.setIfInBounds_toArray, List.set_cons_zero, List.set_cons_succ]
  refine r_val (v := ?qv169) (by kernel_rfl) (fun W hW => ?qh169) ?qr169
  case qh169 =>
    go_light
    go_simp
    rfl
  simp only [Act.put, List.setIfInBounds_toArray, List.set_cons_zero, List.set_cons_succ]
  refine r_val (v := ?qv170) (by kernel_rfl) (fun W hW => ?qh170) ?qr170
  case qh170 =>
    obtain ⟨y0, y1⟩ := HF.out W hW
    go_light
    go_simp
    rfl
  simp only [Act.put, List.setIfInBounds_toArray, List.set_cons_zero, List.set_cons_succ]
  refine r_val (v := ?qv171) (by kernel_rfl) (fun W hW => ?qh171) ?qr171
  case qh171 =>
    go_light
    go_simp
    rfl
  simp only [Act.put, List.setIfInBounds_toArray, List.set_cons_zero, List.set_cons_succ]
  refine r_val (v := ?qv172) (by kernel_rfl) (fun W hW => ?qh172) ?qr172
  case qh172 =>
    go_light
    go_simp
    rfl
  simp only [Act.put, List.setIfInBounds_toArray, List.set_cons_zero, List.set_cons_succ]
  refine r_val (v := ?qv173) (by kernel_rfl) (fun W hW => ?qh173) ?qr173
  case qh173 =>
    go_light
    go_simp
    rfl
  simp only [Act.put, List.setIfInBounds_toArray, List.set_cons_zero, List.set_cons_succ]
  refine r_val (v := ?qv174) (by kernel_rfl) (fun W hW => ?qh174) ?qr174
  case qh174 =>
    go_light
    go_simp
    rfl
  simp only [Act.put, List.setIfInBounds_toArray, List.set_cons_zero, List.set_cons_succ]
  refine r_val (v := ?qv175) (by kernel_rfl) (fun W hW => ?qh175) ?qr175
  case qh175 =>
    go_light
    go_simp
    rfl
  simp only [Act.put, List.setIfInBounds_toArray, List.set_cons_zero, List.set_cons_succ]
  refine r_val (v := ?qv176) (by kernel_rfl) (fun W hW => ?qh176) ?qr176
  case qh176 =>
    obtain ⟨y0, y1⟩ := HF.out W hW
    go_light
    go_simp
    rfl
  simp only [Act.put, List.setIfInBounds_toArray, List.set_cons_zero, List.set_cons_succ]
  refine r_val (v := ?qv177) (by kernel_rfl) (fun W hW => ?qh177) ?qr177
  case qh177 =>
    go_light
    go_simp
    rfl
  simp only [Act.put, List.setIfInBounds_toArray, List.set_cons_zero, List.set_cons_succ]
  refine r_val (v := ?qv178) (by kernel_rfl) (fun W hW => ?qh178) ?qr178
  case qh178 =>
    go_light
    go_simp
    rfl
  simp only [Act.put, List.setIfInBounds_toArray, List.set_cons_zero, List.set_cons_succ]
  refine r_val (v := ?qv179) (by kernel_rfl) (fun W hW => ?qh179) ?qr179
  case qh179 =>
    go_light
    go_simp
    rfl
  simp only [Act.put, List.setIfInBounds_toArray, List.set_cons_zero, List.set_cons_succ]
  refine r_nil ?_
  intro w2 hg2
  go_wp2
  go_ret
  exact ⟨rfl, (Gr.trans hg1 hg2)⟩

end Go.Proofs.Ytpcmdijgepbilaa
