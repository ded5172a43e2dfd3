/- The contract of rex.reader.ranges: may a hyphen that is next make a range? · The contract of rex.reader.ranges, at one of the six. · The contract of rex.reader.ranges: whether a hyphen that is next may make a range. -/
import Derived.Test.YtjapddfnpmlifaaGreatDoorRunRxText
import Derived.Test.YtjapddfnpmlifaaGreatDoorRunRuArc2
import Derived.IntWalk
import Derived.Deep.Light
import Derived.Deep.Cut
import Derived.Deep.CutRange
namespace Go.Proofs.YtjapddfnpmlifaaGreatDoor
open Go.RowKit
set_option linter.unusedVariables false
set_option linter.unusedSimpArgs false

theorem wrap_in (x : Int) (h : 0 ≤ x) (h' : x ≤ 1000000) : IntKind.i64.wrap x = x := IntWalk.i64_in x ⟨by omega, by omega⟩
set_option maxRecDepth 100000 in
set_option maxHeartbeats 3200000 in
theorem rng_no {w : World} {R n : Nat} {s : ByteArray} {q : Rs} (h : Rdr w R s n q) (hs : (s.size : Int) ≤ 4096) (hq : headIs 45 q.rest = false) :
  Calls Tryz.prog 163 #[.pointer (some ⟨R, 0, none⟩)] w fun e w' => e = .returned (.bool false) ∧ Gr w w' := by
 have QI := fun w (h : Rdr w R s n q) => is_no h hs 45 (by decide) hq
 clear hq
 have HF : Hid (∀ W, Gr w W → W.cell? ⟨R, 0, none⟩ = some (.string s) ∧ W.cell? ⟨R, 1, none⟩ = some (.int .i64 n)) := Lib.hid (fun W hW => ⟨(hW.cell (p := ⟨R, 0, none⟩) h.lt).trans h.c0, (hW.cell (p := ⟨R, 1, none⟩) h.lt).trans h.c1⟩)
 go_enter Tryz.func163, Tryz.ntmps163
 go_wp2
 refine region_R (by kernel_rfl) (by kernel_rfl) ?_
 iterate 3 (refine r_val (v := ?_) (by kernel_rfl) (fun W hW => ?_) ?_; rotate_left; (focus go_light; go_simp; rfl); simp only [Pu])
 refine r_call (v := .bool false) (f := ?qf4) (args := ?qa4) (by kernel_rfl) (fun W hW => ?qh4) (fun W hW => ?qc4) ?qr4
 case qh4 => go_light; go_simp; constructor <;> rfl
 case qc4 => exact (QI W (h.gr hW)).mono (fun e w' h => ⟨h.1, Gr.trans hW h.2⟩)
 simp only [Pu]
 iterate 2 (refine r_val (v := ?_) (by kernel_rfl) (fun W hW => ?_) ?_; rotate_left; (focus go_light; go_simp; rfl); simp only [Pu])
 iterate 13 (refine r_skip (by kernel_rfl) ?_; simp only [Pu])
 iterate 2 (refine r_val (v := ?_) (by kernel_rfl) (fun W hW => ?_) ?_; rotate_left; (focus go_light; go_simp; rfl); simp only [Pu])
 iterate 13 (refine r_skip (by kernel_rfl) ?_; simp only [Pu])
 refine r_val (v := ?_) (by kernel_rfl) (fun W hW => ?_) ?_; rotate_left; (focus go_light; go_simp; rfl); simp only [Pu]
 refine r_nil ?_
 intro w1 hg1
 go_wp2
 go_ret
 exact ⟨rfl, hg1⟩

set_option maxRecDepth 100000 in
set_option maxHeartbeats 3200000 in
theorem rng_end {w : World} {R n : Nat} {s : ByteArray} {q : Rs} (h : Rdr w R s n q) (hs : (s.size : Int) ≤ 4096) {c : UInt8} (hc : c.toNat = 45) (hq : q.rest = [c]) :
  Calls Tryz.prog 163 #[.pointer (some ⟨R, 0, none⟩)] w fun e w' => e = .returned (.bool false) ∧ Gr w w' := by
 have QI := fun w (h : Rdr w R s n q) => is_yes h hs 45 (by decide) (by rw [hq]; simp [headIs, hc])
 have hl := h.len
 rw [hq] at hl
 simp at hl
 have hd1 : decide ((n : Int) + 1 ≥ (s.size : Int)) = true := decide_eq_true (by omega)
 have hd1' : (s.size : Int) ≤ (n : Int) + 1 := by omega
 have hwr := wrap_in ((n : Int) + 1) (by omega) (by omega)
 clear hl
 clear hq
 have HF : Hid (∀ W, Gr w W → W.cell? ⟨R, 0, none⟩ = some (.string s) ∧ W.cell? ⟨R, 1, none⟩ = some (.int .i64 n)) := Lib.hid (fun W hW => ⟨(hW.cell (p := ⟨R, 0, none⟩) h.lt).trans h.c0, (hW.cell (p := ⟨R, 1, none⟩) h.lt).trans h.c1⟩)
 go_enter Tryz.func163, Tryz.ntmps163
 go_wp2
 refine region_R (by kernel_rfl) (by kernel_rfl) ?_
 iterate 3 (refine r_val (v := ?_) (by kernel_rfl) (fun W hW => ?_) ?_; rotate_left; (focus go_light; go_simp; rfl); simp only [Pu])
 refine r_call (v := .bool true) (f := ?qf13) (args := ?qa13) (by kernel_rfl) (fun W hW => ?qh13) (fun W hW => ?qc13) ?qr13
 case qh13 => go_light; go_simp; constructor <;> rfl
 case qc13 => exact (QI W (h.gr hW)).mono (fun e w' h => ⟨h.1, Gr.trans hW h.2⟩)
 simp only [Pu]
 iterate 6 (refine r_val (v := ?_) (by kernel_rfl) (fun W hW => ?_) ?_; rotate_left; (focus go_light; go_simp; rfl); simp only [Pu])
 refine r_val (v := ?qv20) (by kernel_rfl) (fun W hW => ?qh20) ?qr20
 case qh20 => obtain ⟨y0, y1⟩ := HF.out W hW; go_light; go_simp; rfl
 simp only [Pu]
 iterate 5 (refine r_val (v := ?_) (by kernel_rfl) (fun W hW => ?_) ?_; rotate_left; (focus go_light; go_simp; rfl); simp only [Pu])
 refine r_val (v := ?qv26) (by kernel_rfl) (fun W hW => ?qh26) ?qr26
 case qh26 => obtain ⟨y0, y1⟩ := HF.out W hW; go_light; go_simp; rfl
 simp only [Pu]
 iterate 4 (refine r_val (v := ?_) (by kernel_rfl) (fun W hW => ?_) ?_; rotate_left; (focus go_light; go_simp; rfl); simp only [Pu])
 iterate 13 (refine r_skip (by kernel_rfl) ?_; simp only [Pu])
 refine r_val (v := ?_) (by kernel_rfl) (fun W hW => ?_) ?_; rotate_left; (focus go_light; go_simp; rfl); simp only [Pu]
 refine r_nil ?_
 intro w1 hg1
 go_wp2
 go_ret
 exact ⟨rfl, hg1⟩

set_option maxRecDepth 100000 in
set_option maxHeartbeats 3200000 in
theorem rng_shut {w : World} {R n : Nat} {s : ByteArray} {q : Rs} (h : Rdr w R s n q) (hs : (s.size : Int) ≤ 4096) {c d : UInt8} {r : List UInt8} (hc : c.toNat = 45) (hq : q.rest = c :: d :: r) (hdd : d.toNat = 93) :
  Calls Tryz.prog 163 #[.pointer (some ⟨R, 0, none⟩)] w fun e w' => e = .returned (.bool false) ∧ Gr w w' := by
 have QI := fun w (h : Rdr w R s n q) => is_yes h hs 45 (by decide) (by rw [hq]; simp [headIs, hc])
 have hl := h.len
 have hr := h.rest
 rw [hq] at hl hr
 simp at hl
 have hd1' : (n : Int) + 1 < (s.size : Int) := by omega
 have hd1 : decide ((s.size : Int) ≤ (n : Int) + 1) = false := decide_eq_false (by omega)
 obtain ⟨hn1, hb1⟩ := drop_byte (s := s) (n := n + 1) (c := d) (r := r) (by rw [← List.drop_drop, hr]; rfl)
 have hwr := wrap_in ((n : Int) + 1) (by omega) (by omega)
 clear hl hr hq
 have hd : ((d.toNat : Int) == 93) = true := beq_iff_eq.2 (by omega)
 clear hdd
 have HF : Hid (∀ W, Gr w W → W.cell? ⟨R, 0, none⟩ = some (.string s) ∧ W.cell? ⟨R, 1, none⟩ = some (.int .i64 n)) := Lib.hid (fun W hW => ⟨(hW.cell (p := ⟨R, 0, none⟩) h.lt).trans h.c0, (hW.cell (p := ⟨R, 1, none⟩) h.lt).trans h.c1⟩)
 go_enter Tryz.func163, Tryz.ntmps163
 go_wp2
 refine region_R (by kernel_rfl) (by kernel_rfl) ?_
 iterate 3 (refine r_val (v := ?_) (by kernel_rfl) (fun W hW => ?_) ?_; rotate_left; (focus go_light; go_simp; rfl); simp only [Pu])
 refine r_call (v := .bool true) (f := ?qf35) (args := ?qa35) (by kernel_rfl) (fun W hW => ?qh35) (fun W hW => ?qc35) ?qr35
 case qh35 => go_light; go_simp; constructor <;> rfl
 case qc35 => exact (QI W (h.gr hW)).mono (fun e w' h => ⟨h.1, Gr.trans hW h.2⟩)
 simp only [Pu]
 iterate 6 (refine r_val (v := ?_) (by kernel_rfl) (fun W hW => ?_) ?_; rotate_left; (focus go_light; go_simp; rfl); simp only [Pu])
 refine r_val (v := ?qv42) (by kernel_rfl) (fun W hW => ?qh42) ?qr42
 case qh42 => obtain ⟨y0, y1⟩ := HF.out W hW; go_light; go_simp; rfl
 simp only [Pu]
 iterate 5 (refine r_val (v := ?_) (by kernel_rfl) (fun W hW => ?_) ?_; rotate_left; (focus go_light; go_simp; rfl); simp only [Pu])
 refine r_val (v := ?qv48) (by kernel_rfl) (fun W hW => ?qh48) ?qr48
 case qh48 => obtain ⟨y0, y1⟩ := HF.out W hW; go_light; go_simp; rfl
 simp only [Pu]
 iterate 8 (refine r_val (v := ?_) (by kernel_rfl) (fun W hW => ?_) ?_; rotate_left; (focus go_light; go_simp; rfl); simp only [Pu])
 refine r_val (v := ?qv57) (by kernel_rfl) (fun W hW => ?qh57) ?qr57
 case qh57 => obtain ⟨y0, y1⟩ := HF.out W hW; go_light; go_simp; rfl
 simp only [Pu]
 iterate 4 (refine r_val (v := ?_) (by kernel_rfl) (fun W hW => ?_) ?_; rotate_left; (focus go_light; go_simp; rfl); simp only [Pu])
 refine r_val (v := ?qv62) (by kernel_rfl) (fun W hW => ?qh62) ?qr62
 case qh62 => obtain ⟨y0, y1⟩ := HF.out W hW; go_light; go_simp; rfl
 simp only [Pu]
 iterate 4 (refine r_val (v := ?_) (by kernel_rfl) (fun W hW => ?_) ?_; rotate_left; (focus go_light; go_simp; rfl); simp only [Pu])
 refine r_nil ?_
 intro w1 hg1
 go_wp2
 go_ret
 exact ⟨rfl, hg1⟩

set_option maxRecDepth 100000 in
set_option maxHeartbeats 3200000 in
theorem rng_plain {w : World} {R n : Nat} {s : ByteArray} {q : Rs} (h : Rdr w R s n q) (hs : (s.size : Int) ≤ 4096) {c d : UInt8} {r : List UInt8} (hc : c.toNat = 45) (hq : q.rest = c :: d :: r) (hdd : d.toNat ≠ 93) (hdd2 : d.toNat ≠ 92) :
  Calls Tryz.prog 163 #[.pointer (some ⟨R, 0, none⟩)] w fun e w' => e = .returned (.bool true) ∧ Gr w w' := by
 have QI := fun w (h : Rdr w R s n q) => is_yes h hs 45 (by decide) (by rw [hq]; simp [headIs, hc])
 have hl := h.len
 have hr := h.rest
 rw [hq] at hl hr
 simp at hl
 have hd1' : (n : Int) + 1 < (s.size : Int) := by omega
 have hd1 : decide ((s.size : Int) ≤ (n : Int) + 1) = false := decide_eq_false (by omega)
 obtain ⟨hn1, hb1⟩ := drop_byte (s := s) (n := n + 1) (c := d) (r := r) (by rw [← List.drop_drop, hr]; rfl)
 have hwr := wrap_in ((n : Int) + 1) (by omega) (by omega)
 clear hl hr hq
 have hd : ((d.toNat : Int) == 93) = false := beq_eq_false_iff_ne.2 (by omega)
 have hd2 : ((d.toNat : Int) != 92) = true := by simp [bne, beq_eq_false_iff_ne.2 (show (d.toNat : Int) ≠ 92 by omega)]
 clear hdd hdd2
 have HF : Hid (∀ W, Gr w W → W.cell? ⟨R, 0, none⟩ = some (.string s) ∧ W.cell? ⟨R, 1, none⟩ = some (.int .i64 n)) := Lib.hid (fun W hW => ⟨(hW.cell (p := ⟨R, 0, none⟩) h.lt).trans h.c0, (hW.cell (p := ⟨R, 1, none⟩) h.lt).trans h.c1⟩)
 go_enter Tryz.func163, Tryz.ntmps163
 go_wp2
 refine region_R (by kernel_rfl) (by kernel_rfl) ?_
 iterate 3 (refine r_val (v := ?_) (by kernel_rfl) (fun W hW => ?_) ?_; rotate_left; (focus go_light; go_simp; rfl); simp only [Pu])
 refine r_call (v := .bool true) (f := ?qf70) (args := ?qa70) (by kernel_rfl) (fun W hW => ?qh70) (fun W hW => ?qc70) ?qr70
 case qh70 => go_light; go_simp; constructor <;> rfl
 case qc70 => exact (QI W (h.gr hW)).mono (fun e w' h => ⟨h.1, Gr.trans hW h.2⟩)
 simp only [Pu]
 iterate 6 (refine r_val (v := ?_) (by kernel_rfl) (fun W hW => ?_) ?_; rotate_left; (focus go_light; go_simp; rfl); simp only [Pu])
 refine r_val (v := ?qv77) (by kernel_rfl) (fun W hW => ?qh77) ?qr77
 case qh77 => obtain ⟨y0, y1⟩ := HF.out W hW; go_light; go_simp; rfl
 simp only [Pu]
 iterate 5 (refine r_val (v := ?_) (by kernel_rfl) (fun W hW => ?_) ?_; rotate_left; (focus go_light; go_simp; rfl); simp only [Pu])
 refine r_val (v := ?qv83) (by kernel_rfl) (fun W hW => ?qh83) ?qr83
 case qh83 => obtain ⟨y0, y1⟩ := HF.out W hW; go_light; go_simp; rfl
 simp only [Pu]
 iterate 8 (refine r_val (v := ?_) (by kernel_rfl) (fun W hW => ?_) ?_; rotate_left; (focus go_light; go_simp; rfl); simp only [Pu])
 refine r_val (v := ?qv92) (by kernel_rfl) (fun W hW => ?qh92) ?qr92
 case qh92 => obtain ⟨y0, y1⟩ := HF.out W hW; go_light; go_simp; rfl
 simp only [Pu]
 iterate 4 (refine r_val (v := ?_) (by kernel_rfl) (fun W hW => ?_) ?_; rotate_left; (focus go_light; go_simp; rfl); simp only [Pu])
 refine r_val (v := ?qv97) (by kernel_rfl) (fun W hW => ?qh97) ?qr97
 case qh97 => obtain ⟨y0, y1⟩ := HF.out W hW; go_light; go_simp; rfl
 simp only [Pu]
 iterate 4 (refine r_val (v := ?_) (by kernel_rfl) (fun W hW => ?_) ?_; rotate_left; (focus go_light; go_simp; rfl); simp only [Pu])
 refine r_nil ?_
 intro w1 hg1
 have h1 := h.gr hg1
 have HF1 : Hid (∀ W, Gr w1 W → W.cell? ⟨R, 0, none⟩ = some (.string s) ∧ W.cell? ⟨R, 1, none⟩ = some (.int .i64 n)) := Lib.hid (fun W hW => ⟨(hW.cell (p := ⟨R, 0, none⟩) h1.lt).trans h1.c0, (hW.cell (p := ⟨R, 1, none⟩) h1.lt).trans h1.c1⟩)
 clear HF
 have HF := HF1
 clear HF1
 go_wp2
 refine region_R (by kernel_rfl) (by kernel_rfl) ?_
 iterate 4 (refine r_val (v := ?_) (by kernel_rfl) (fun W hW => ?_) ?_; rotate_left; (focus go_light; go_simp; rfl); simp only [Pu])
 refine r_val (v := ?qv106) (by kernel_rfl) (fun W hW => ?qh106) ?qr106
 case qh106 => obtain ⟨y0, y1⟩ := HF.out W hW; go_light; go_simp; rfl
 simp only [Pu]
 iterate 4 (refine r_val (v := ?_) (by kernel_rfl) (fun W hW => ?_) ?_; rotate_left; (focus go_light; go_simp; rfl); simp only [Pu])
 refine r_val (v := ?qv111) (by kernel_rfl) (fun W hW => ?qh111) ?qr111
 case qh111 => obtain ⟨y0, y1⟩ := HF.out W hW; go_light; go_simp; rfl
 simp only [Pu]
 iterate 4 (refine r_val (v := ?_) (by kernel_rfl) (fun W hW => ?_) ?_; rotate_left; (focus go_light; go_simp; rfl); simp only [Pu])
 iterate 13 (refine r_skip (by kernel_rfl) ?_; simp only [Pu])
 refine r_val (v := ?_) (by kernel_rfl) (fun W hW => ?_) ?_; rotate_left; (focus go_light; go_simp; rfl); simp only [Pu]
 refine r_nil ?_
 intro w2 hg2
 go_wp2
 go_ret
 exact ⟨rfl, (Gr.trans hg1 hg2)⟩

set_option maxRecDepth 100000 in
set_option maxHeartbeats 3200000 in
theorem rng_last {w : World} {R n : Nat} {s : ByteArray} {q : Rs} (h : Rdr w R s n q) (hs : (s.size : Int) ≤ 4096) {c d : UInt8} (hc : c.toNat = 45) (hq : q.rest = [c, d]) (hdd : d.toNat = 92) :
  Calls Tryz.prog 163 #[.pointer (some ⟨R, 0, none⟩)] w fun e w' => e = .returned (.bool true) ∧ Gr w w' := by
 have QI := fun w (h : Rdr w R s n q) => is_yes h hs 45 (by decide) (by rw [hq]; simp [headIs, hc])
 have hl := h.len
 have hr := h.rest
 rw [hq] at hl hr
 simp at hl
 have hd1' : (n : Int) + 1 < (s.size : Int) := by omega
 have hd1 : decide ((s.size : Int) ≤ (n : Int) + 1) = false := decide_eq_false (by omega)
 obtain ⟨hn1, hb1⟩ := drop_byte (s := s) (n := n + 1) (c := d) (r := []) (by rw [← List.drop_drop, hr]; rfl)
 have hwr := wrap_in ((n : Int) + 1) (by omega) (by omega)
 have hd3 : (s.size : Int) ≤ (n : Int) + 2 := by omega
 have hwr2 := wrap_in ((n : Int) + 2) (by omega) (by omega)
 clear hl hr hq
 have hd : ((d.toNat : Int) == 93) = false := beq_eq_false_iff_ne.2 (by omega)
 have hd2 : ((d.toNat : Int) != 92) = false := by rw [hdd]; rfl
 clear hdd
 have HF : Hid (∀ W, Gr w W → W.cell? ⟨R, 0, none⟩ = some (.string s) ∧ W.cell? ⟨R, 1, none⟩ = some (.int .i64 n)) := Lib.hid (fun W hW => ⟨(hW.cell (p := ⟨R, 0, none⟩) h.lt).trans h.c0, (hW.cell (p := ⟨R, 1, none⟩) h.lt).trans h.c1⟩)
 go_enter Tryz.func163, Tryz.ntmps163
 go_wp2
 refine region_R (by kernel_rfl) (by kernel_rfl) ?_
 iterate 3 (refine r_val (v := ?_) (by kernel_rfl) (fun W hW => ?_) ?_; rotate_left; (focus go_light; go_simp; rfl); simp only [Pu])
 refine r_call (v := .bool true) (f := ?qf120) (args := ?qa120) (by kernel_rfl) (fun W hW => ?qh120) (fun W hW => ?qc120) ?qr120
 case qh120 => go_light; go_simp; constructor <;> rfl
 case qc120 => exact (QI W (h.gr hW)).mono (fun e w' h => ⟨h.1, Gr.trans hW h.2⟩)
 simp only [Pu]
 iterate 6 (refine r_val (v := ?_) (by kernel_rfl) (fun W hW => ?_) ?_; rotate_left; (focus go_light; go_simp; rfl); simp only [Pu])
 refine r_val (v := ?qv127) (by kernel_rfl) (fun W hW => ?qh127) ?qr127
 case qh127 => obtain ⟨y0, y1⟩ := HF.out W hW; go_light; go_simp; rfl
 simp only [Pu]
 iterate 5 (refine r_val (v := ?_) (by kernel_rfl) (fun W hW => ?_) ?_; rotate_left; (focus go_light; go_simp; rfl); simp only [Pu])
 refine r_val (v := ?qv133) (by kernel_rfl) (fun W hW => ?qh133) ?qr133
 case qh133 => obtain ⟨y0, y1⟩ := HF.out W hW; go_light; go_simp; rfl
 simp only [Pu]
 iterate 8 (refine r_val (v := ?_) (by kernel_rfl) (fun W hW => ?_) ?_; rotate_left; (focus go_light; go_simp; rfl); simp only [Pu])
 refine r_val (v := ?qv142) (by kernel_rfl) (fun W hW => ?qh142) ?qr142
 case qh142 => obtain ⟨y0, y1⟩ := HF.out W hW; go_light; go_simp; rfl
 simp only [Pu]
 iterate 4 (refine r_val (v := ?_) (by kernel_rfl) (fun W hW => ?_) ?_; rotate_left; (focus go_light; go_simp; rfl); simp only [Pu])
 refine r_val (v := ?qv147) (by kernel_rfl) (fun W hW => ?qh147) ?qr147
 case qh147 => obtain ⟨y0, y1⟩ := HF.out W hW; go_light; go_simp; rfl
 simp only [Pu]
 iterate 4 (refine r_val (v := ?_) (by kernel_rfl) (fun W hW => ?_) ?_; rotate_left; (focus go_light; go_simp; rfl); simp only [Pu])
 refine r_nil ?_
 intro w1 hg1
 have h1 := h.gr hg1
 have HF1 : Hid (∀ W, Gr w1 W → W.cell? ⟨R, 0, none⟩ = some (.string s) ∧ W.cell? ⟨R, 1, none⟩ = some (.int .i64 n)) := Lib.hid (fun W hW => ⟨(hW.cell (p := ⟨R, 0, none⟩) h1.lt).trans h1.c0, (hW.cell (p := ⟨R, 1, none⟩) h1.lt).trans h1.c1⟩)
 clear HF
 have HF := HF1
 clear HF1
 go_wp2
 refine region_R (by kernel_rfl) (by kernel_rfl) ?_
 iterate 4 (refine r_val (v := ?_) (by kernel_rfl) (fun W hW => ?_) ?_; rotate_left; (focus go_light; go_simp; rfl); simp only [Pu])
 refine r_val (v := ?qv156) (by kernel_rfl) (fun W hW => ?qh156) ?qr156
 case qh156 => obtain ⟨y0, y1⟩ := HF.out W hW; go_light; go_simp; rfl
 simp only [Pu]
 iterate 4 (refine r_val (v := ?_) (by kernel_rfl) (fun W hW => ?_) ?_; rotate_left; (focus go_light; go_simp; rfl); simp only [Pu])
 refine r_val (v := ?qv161) (by kernel_rfl) (fun W hW => ?qh161) ?qr161
 case qh161 => obtain ⟨y0, y1⟩ := HF.out W hW; go_light; go_simp; rfl
 simp only [Pu]
 iterate 8 (refine r_val (v := ?_) (by kernel_rfl) (fun W hW => ?_) ?_; rotate_left; (focus go_light; go_simp; rfl); simp only [Pu])
 refine r_val (v := ?qv170) (by kernel_rfl) (fun W hW => ?qh170) ?qr170
 case qh170 => obtain ⟨y0, y1⟩ := HF.out W hW; go_light; go_simp; rfl
 simp only [Pu]
 iterate 5 (refine r_val (v := ?_) (by kernel_rfl) (fun W hW => ?_) ?_; rotate_left; (focus go_light; go_simp; rfl); simp only [Pu])
 refine r_val (v := ?qv176) (by kernel_rfl) (fun W hW => ?qh176) ?qr176
 case qh176 => obtain ⟨y0, y1⟩ := HF.out W hW; go_light; go_simp; rfl
 simp only [Pu]
 iterate 3 (refine r_val (v := ?_) (by kernel_rfl) (fun W hW => ?_) ?_; rotate_left; (focus go_light; go_simp; rfl); simp only [Pu])
 refine r_nil ?_
 intro w2 hg2
 go_wp2
 go_ret
 exact ⟨rfl, (Gr.trans hg1 hg2)⟩

end Go.Proofs.YtjapddfnpmlifaaGreatDoor
namespace Go.Proofs.YtjapddfnpmlifaaGreatDoor
open Go.RowKit
set_option linter.unusedVariables false
set_option linter.unusedSimpArgs false

set_option maxRecDepth 100000 in
set_option maxHeartbeats 3200000 in
theorem rng_named {w : World} {R n : Nat} {s : ByteArray} {q : Rs} (h : Rdr w R s n q) (hs : (s.size : Int) ≤ 4096) {c d x : UInt8} {r : List UInt8} (hc : c.toNat = 45) (hq : q.rest = c :: d :: x :: r) (hdd : d.toNat = 92) :
  Calls Tryz.prog 163 #[.pointer (some ⟨R, 0, none⟩)] w fun e w' => e = .returned (.bool (!isNamed x.toNat)) ∧ Gr w w' := by
 have QI := fun w (h : Rdr w R s n q) => is_yes h hs 45 (by decide) (by rw [hq]; simp [headIs, hc])
 have hl := h.len
 have hr := h.rest
 rw [hq] at hl hr
 simp at hl
 have hd1' : (n : Int) + 1 < (s.size : Int) := by omega
 have hd1 : decide ((s.size : Int) ≤ (n : Int) + 1) = false := decide_eq_false (by omega)
 obtain ⟨hn1, hb1⟩ := drop_byte (s := s) (n := n + 1) (c := d) (r := x :: r) (by rw [← List.drop_drop, hr]; rfl)
 have hwr := wrap_in ((n : Int) + 1) (by omega) (by omega)
 have hd3 : ¬ (s.size : Int) ≤ (n : Int) + 2 := by omega
 have hd4 : (n : Int) + 2 < (s.size : Int) := by omega
 obtain ⟨hn2, hb2⟩ := drop_byte (s := s) (n := n + 2) (c := x) (r := r) (by rw [← List.drop_drop, hr]; rfl)
 have hwr2 := wrap_in ((n : Int) + 2) (by omega) (by omega)
 clear hl hr hq
 have hd : ((d.toNat : Int) == 93) = false := beq_eq_false_iff_ne.2 (by omega)
 have hd2 : ((d.toNat : Int) != 92) = false := by rw [hdd]; rfl
 clear hdd
 have QN := fun w => named_any x.toNat w x.toNat_lt
 obtain ⟨hz, hsz⟩ := zero_of_info info_set
 have HF : Hid (∀ W, Gr w W → W.cell? ⟨R, 0, none⟩ = some (.string s) ∧ W.cell? ⟨R, 1, none⟩ = some (.int .i64 n)) := Lib.hid (fun W hW => ⟨(hW.cell (p := ⟨R, 0, none⟩) h.lt).trans h.c0, (hW.cell (p := ⟨R, 1, none⟩) h.lt).trans h.c1⟩)
 go_enter Tryz.func163, Tryz.ntmps163
 go_wp2
 refine region_R (by kernel_rfl) (by kernel_rfl) ?_
 iterate 3 (refine r_val (v := ?_) (by kernel_rfl) (fun W hW => ?_) ?_; rotate_left; (focus go_light; go_simp; rfl); simp only [Pu])
 refine r_call (v := .bool true) (f := ?qf183) (args := ?qa183) (by kernel_rfl) (fun W hW => ?qh183) (fun W hW => ?qc183) ?qr183
 case qh183 => go_light; go_simp; constructor <;> rfl
 case qc183 => exact (QI W (h.gr hW)).mono (fun e w' h => ⟨h.1, Gr.trans hW h.2⟩)
 simp only [Pu]
 iterate 6 (refine r_val (v := ?_) (by kernel_rfl) (fun W hW => ?_) ?_; rotate_left; (focus go_light; go_simp; rfl); simp only [Pu])
 refine r_val (v := ?qv190) (by kernel_rfl) (fun W hW => ?qh190) ?qr190
 case qh190 => obtain ⟨y0, y1⟩ := HF.out W hW; go_light; go_simp; rfl
 simp only [Pu]
 iterate 5 (refine r_val (v := ?_) (by kernel_rfl) (fun W hW => ?_) ?_; rotate_left; (focus go_light; go_simp; rfl); simp only [Pu])
 refine r_val (v := ?qv196) (by kernel_rfl) (fun W hW => ?qh196) ?qr196
 case qh196 => obtain ⟨y0, y1⟩ := HF.out W hW; go_light; go_simp; rfl
 simp only [Pu]
 iterate 8 (refine r_val (v := ?_) (by kernel_rfl) (fun W hW => ?_) ?_; rotate_left; (focus go_light; go_simp; rfl); simp only [Pu])
 refine r_val (v := ?qv205) (by kernel_rfl) (fun W hW => ?qh205) ?qr205
 case qh205 => obtain ⟨y0, y1⟩ := HF.out W hW; go_light; go_simp; rfl
 simp only [Pu]
 iterate 4 (refine r_val (v := ?_) (by kernel_rfl) (fun W hW => ?_) ?_; rotate_left; (focus go_light; go_simp; rfl); simp only [Pu])
 refine r_val (v := ?qv210) (by kernel_rfl) (fun W hW => ?qh210) ?qr210
 case qh210 => obtain ⟨y0, y1⟩ := HF.out W hW; go_light; go_simp; rfl
 simp only [Pu]
 iterate 4 (refine r_val (v := ?_) (by kernel_rfl) (fun W hW => ?_) ?_; rotate_left; (focus go_light; go_simp; rfl); simp only [Pu])
 refine r_nil ?_
 intro w1 hg1
 have h1 := h.gr hg1
 have HF1 : Hid (∀ W, Gr w1 W → W.cell? ⟨R, 0, none⟩ = some (.string s) ∧ W.cell? ⟨R, 1, none⟩ = some (.int .i64 n)) := Lib.hid (fun W hW => ⟨(hW.cell (p := ⟨R, 0, none⟩) h1.lt).trans h1.c0, (hW.cell (p := ⟨R, 1, none⟩) h1.lt).trans h1.c1⟩)
 clear HF
 have HF := HF1
 clear HF1
 go_wp2
 refine region_R (by kernel_rfl) (by kernel_rfl) ?_
 iterate 4 (refine r_val (v := ?_) (by kernel_rfl) (fun W hW => ?_) ?_; rotate_left; (focus go_light; go_simp; rfl); simp only [Pu])
 refine r_val (v := ?qv219) (by kernel_rfl) (fun W hW => ?qh219) ?qr219
 case qh219 => obtain ⟨y0, y1⟩ := HF.out W hW; go_light; go_simp; rfl
 simp only [Pu]
 iterate 4 (refine r_val (v := ?_) (by kernel_rfl) (fun W hW => ?_) ?_; rotate_left; (focus go_light; go_simp; rfl); simp only [Pu])
 refine r_val (v := ?qv224) (by kernel_rfl) (fun W hW => ?qh224) ?qr224
 case qh224 => obtain ⟨y0, y1⟩ := HF.out W hW; go_light; go_simp; rfl
 simp only [Pu]
 iterate 8 (refine r_val (v := ?_) (by kernel_rfl) (fun W hW => ?_) ?_; rotate_left; (focus go_light; go_simp; rfl); simp only [Pu])
 refine r_val (v := ?qv233) (by kernel_rfl) (fun W hW => ?qh233) ?qr233
 case qh233 => obtain ⟨y0, y1⟩ := HF.out W hW; go_light; go_simp; rfl
 simp only [Pu]
 iterate 5 (refine r_val (v := ?_) (by kernel_rfl) (fun W hW => ?_) ?_; rotate_left; (focus go_light; go_simp; rfl); simp only [Pu])
 refine r_val (v := ?qv239) (by kernel_rfl) (fun W hW => ?qh239) ?qr239
 case qh239 => obtain ⟨y0, y1⟩ := HF.out W hW; go_light; go_simp; rfl
 simp only [Pu]
 iterate 3 (refine r_val (v := ?_) (by kernel_rfl) (fun W hW => ?_) ?_; rotate_left; (focus go_light; go_simp; rfl); simp only [Pu])
 refine r_nil ?_
 intro w2 hg2
 have h2 := h1.gr hg2
 have HF2 : Hid (∀ W, Gr w2 W → W.cell? ⟨R, 0, none⟩ = some (.string s) ∧ W.cell? ⟨R, 1, none⟩ = some (.int .i64 n)) := Lib.hid (fun W hW => ⟨(hW.cell (p := ⟨R, 0, none⟩) h2.lt).trans h2.c0, (hW.cell (p := ⟨R, 1, none⟩) h2.lt).trans h2.c1⟩)
 clear HF
 have HF := HF2
 clear HF2
 go_wp2
 go_upto_region 5 with (fail)
 go_cut [4] from 68 to 84 (fun p wx => p = .bool (isNamed x.toNat) ∧ Gr w2 wx)
 case first =>
  have hS0 : Gr w2 w2.drew := Gr.drew (Gr.refl _)
  obtain ⟨V, hV⟩ : ∃ V, V = w2.drew := ⟨_, rfl⟩
  refine wp_region_Z 18 (fun W => Gr w2 W) (by kernel_rfl) ?_
  rw [← hV] at hS0 ⊢
  clear hV
  refine wpAnyZ_take (i := 0) (v := ?v1) rfl (by kernel_rfl) (fun _ _ _ h => h) (by rfl) (fun W hS => ?h1) hS0 ?r1
  case h1 => go_light; go_simp; rfl
  simp only [Act.put, List.setIfInBounds_toArray, List.set_cons_zero, List.set_cons_succ]
  refine wpAnyZ_take (i := 1) (v := ?v2) rfl (by kernel_rfl) (fun _ _ _ h => h) (by rfl) (fun W hS => ?h2) hS0 ?r2
  case h2 => go_light; go_simp; rfl
  simp only [Act.put, List.setIfInBounds_toArray, List.set_cons_zero, List.set_cons_succ]
  refine wpAnyZ_take (i := 2) (v := ?v3) rfl (by kernel_rfl) (fun _ _ _ h => h) (by rfl) (fun W hS => ?h3) hS0 ?r3
  case h3 => go_light; go_simp; rfl
  simp only [Act.put, List.setIfInBounds_toArray, List.set_cons_zero, List.set_cons_succ]
  refine wpAnyZ_take (i := 3) (v := ?v4) rfl (by kernel_rfl) (fun _ _ _ h => h) (by rfl) (fun W hS => ?h4) hS0 ?r4
  case h4 => go_light; go_simp; rfl
  simp only [Act.put, List.setIfInBounds_toArray, List.set_cons_zero, List.set_cons_succ]
  refine wpAnyZ_take (i := 4) (v := ?v5) rfl (by kernel_rfl) (fun _ _ _ h => h) (by rfl) (fun W hS => ?h5) hS0 ?r5
  case h5 => obtain ⟨y0, y1⟩ := HF.out W hS; go_light; go_simp; rfl
  simp only [Act.put, List.setIfInBounds_toArray, List.set_cons_zero, List.set_cons_succ]
  refine wpAnyZ_take (i := 5) (v := ?v6) rfl (by kernel_rfl) (fun _ _ _ h => h) (by rfl) (fun W hS => ?h6) hS0 ?r6
  case h6 => go_light; go_simp; rfl
  simp only [Act.put, List.setIfInBounds_toArray, List.set_cons_zero, List.set_cons_succ]
  refine wpAnyZ_take (i := 6) (v := ?v7) rfl (by kernel_rfl) (fun _ _ _ h => h) (by rfl) (fun W hS => ?h7) hS0 ?r7
  case h7 => go_light; go_simp; rfl
  simp only [Act.put, List.setIfInBounds_toArray, List.set_cons_zero, List.set_cons_succ]
  refine wpAnyZ_take (i := 7) (v := ?v8) rfl (by kernel_rfl) (fun _ _ _ h => h) (by rfl) (fun W hS => ?h8) hS0 ?r8
  case h8 => go_light; go_simp; rfl
  simp only [Act.put, List.setIfInBounds_toArray, List.set_cons_zero, List.set_cons_succ]
  refine wpAnyZ_take (i := 8) (v := ?v9) rfl (by kernel_rfl) (fun _ _ _ h => h) (by rfl) (fun W hS => ?h9) hS0 ?r9
  case h9 => go_light; go_simp; rfl
  simp only [Act.put, List.setIfInBounds_toArray, List.set_cons_zero, List.set_cons_succ]
  refine wpAnyZ_take (i := 9) (v := ?v10) rfl (by kernel_rfl) (fun _ _ _ h => h) (by rfl) (fun W hS => ?h10) hS0 ?r10
  case h10 => obtain ⟨y0, y1⟩ := HF.out W hS; go_light; go_simp; rfl
  simp only [Act.put, List.setIfInBounds_toArray, List.set_cons_zero, List.set_cons_succ]
  refine wpAnyZ_take (i := 10) (v := ?v11) rfl (by kernel_rfl) (fun _ _ _ h => h) (by rfl) (fun W hS => ?h11) hS0 ?r11
  case h11 => go_light; go_simp; rfl
  simp only [Act.put, List.setIfInBounds_toArray, List.set_cons_zero, List.set_cons_succ]
  refine wpAnyZ_take (i := 11) (v := .int .u8 (x.toNat : Int)) rfl (by kernel_rfl) (fun _ _ _ h => h) (by rfl) (fun W hS => ?h12) hS0 ?r12
  case h12 =>
   go_light
   have z0 : (0 : Int) ≤ (n : Int) + 2 := by omega
   have z1 : ((n : Int) + 2).toNat = n + 2 := by omega
   go_simp

  simp only [Act.put, List.setIfInBounds_toArray, List.set_cons_zero, List.set_cons_succ]
  refine wpAnyZ_ready (rs := [12, 16]) (by kernel_rfl) (by simp) ?_
  refine AllReadyZ.cons rfl (by rfl) (fun K hK => ?_) (AllReadyZ.cons rfl (by rfl) (fun K hK => ?_) AllReadyZ.nil)
  ·
   go_simp
   refine (QN _).mono ?_; rintro e w901 ⟨rfl, hg903⟩
   have g902 := Gr.trans hS0 hg903
   clear hg903
   go_wp2_with fail
   refine hK.out _ _ (fun hnz => ?s13) (fun _ => ?r13)
   case s13 => exact g902
   clear hK K
   try simp only [Pu]
   refine wpAnyZ_take (i := 13) (v := ?v14) rfl (by kernel_rfl) (fun _ _ _ h => h) (by rfl) (fun W hS => ?h14) g902 ?r14
   case h14 => go_light; go_simp; rfl
   simp only [Act.put, List.setIfInBounds_toArray, List.set_cons_zero, List.set_cons_succ]
   refine wpAnyZ_take (i := 14) (v := ?v15) rfl (by kernel_rfl) (fun _ _ _ h => h) (by rfl) (fun W hS => ?h15) g902 ?r15
   case h15 => go_light; go_simp; rfl
   simp only [Act.put, List.setIfInBounds_toArray, List.set_cons_zero, List.set_cons_succ]
   refine wpAnyZ_take (i := 15) (v := ?v16) rfl (by kernel_rfl) (fun _ _ _ h => h) (by rfl) (fun W hS => ?h16) g902 ?r16
   case h16 => go_light; go_simp; rfl
   simp only [Act.put, List.setIfInBounds_toArray, List.set_cons_zero, List.set_cons_succ]
   refine wpAnyZ_ready (rs := [16]) (by kernel_rfl) (by simp) ?_
   refine AllReadyZ.cons rfl (by rfl) (fun K hK => ?_) AllReadyZ.nil
   ·
    have g904 := Gr.alloc g902 (.cells (bsA noB) 219)
    have r905 := SetAt.new w901 noB
    go_wp2_with fail
    refine hK.out _ _ (fun hnz => ?s17) (fun _ => ?r17)
    case s17 => exact g904
    clear hK K
    try simp only [Pu]
    obtain ⟨V906, hV906⟩ : ∃ V906, V906 = w901.alloc (.cells (bsA noB) 219) := ⟨_, rfl⟩
    rw [← hV906] at g904 r905 ⊢
    clear hV906
    refine wpAnyZ_ready (rs := [17]) (by kernel_rfl) (by simp) ?_
    refine AllReadyZ.cons rfl (by rfl) (fun K hK => ?_) AllReadyZ.nil
    ·
     have g907 := Gr.setRow g904 g902.size (bsA (nmB x.toNat))
     refine wp_store_row 219 (.tmp 3) (.tmp 82) rfl (w901.heap.size) (bsA (nmB x.toNat)) rfl rfl _ _ r905 (size_bsA _) (by simp only [bsA_size]) (bsA_one _) ?_
     refine hK.out _ _ (fun hnz => ?s18) (fun _ => ?r18)
     case s18 => exact g907
     clear hK K
     try simp only [Pu]
     refine wpAnyZ_ready (rs := [18]) (by kernel_rfl) (by simp) ?_
     refine AllReadyZ.cons rfl (by rfl) (fun K hK => ?_) AllReadyZ.nil
     ·
      go_simp
      refine hK.out _ _ (fun hnz => absurd rfl hnz) (fun _ => ?_)
      clear hK K
      try simp only [Pu]
      refine wpAnyZ_done (by kernel_rfl) ?_ _
      go_wp2_with fail
      go_meet
      exact ⟨rfl, g907⟩
  ·
   have g908 := Gr.alloc hS0 (.cells (bsA noB) 219)
   have r909 := SetAt.new V noB
   go_wp2_with fail
   refine hK.out _ _ (fun hnz => ?s19) (fun _ => ?r19)
   case s19 => exact g908
   clear hK K
   try simp only [Pu]
   obtain ⟨V910, hV910⟩ : ∃ V910, V910 = V.alloc (.cells (bsA noB) 219) := ⟨_, rfl⟩
   rw [← hV910] at g908 r909 ⊢
   clear hV910
   refine wpAnyZ_ready (rs := [12]) (by kernel_rfl) (by simp) ?_
   refine AllReadyZ.cons rfl (by rfl) (fun K hK => ?_) AllReadyZ.nil
   ·
    go_simp
    refine (QN _).mono ?_; rintro e w911 ⟨rfl, hg913⟩
    have g912 := Gr.trans g908 hg913
    have r914 := r909.gr hg913
    clear hg913
    go_wp2_with fail
    refine hK.out _ _ (fun hnz => ?s20) (fun _ => ?r20)
    case s20 => exact g912
    clear hK K
    try simp only [Pu]
    refine wpAnyZ_take (i := 13) (v := ?v21) rfl (by kernel_rfl) (fun _ _ _ h => h) (by rfl) (fun W hS => ?h21) g912 ?r21
    case h21 => go_light; go_simp; rfl
    simp only [Act.put, List.setIfInBounds_toArray, List.set_cons_zero, List.set_cons_succ]
    refine wpAnyZ_take (i := 14) (v := ?v22) rfl (by kernel_rfl) (fun _ _ _ h => h) (by rfl) (fun W hS => ?h22) g912 ?r22
    case h22 => go_light; go_simp; rfl
    simp only [Act.put, List.setIfInBounds_toArray, List.set_cons_zero, List.set_cons_succ]
    refine wpAnyZ_take (i := 15) (v := ?v23) rfl (by kernel_rfl) (fun _ _ _ h => h) (by rfl) (fun W hS => ?h23) g912 ?r23
    case h23 => go_light; go_simp; rfl
    simp only [Act.put, List.setIfInBounds_toArray, List.set_cons_zero, List.set_cons_succ]
    refine wpAnyZ_ready (rs := [17]) (by kernel_rfl) (by simp) ?_
    refine AllReadyZ.cons rfl (by rfl) (fun K hK => ?_) AllReadyZ.nil
    ·
     have g915 := Gr.setRow g912 hS0.size (bsA (nmB x.toNat))
     refine wp_store_row 219 (.tmp 3) (.tmp 82) rfl (V.heap.size) (bsA (nmB x.toNat)) rfl rfl _ _ r914 (size_bsA _) (by simp only [bsA_size]) (bsA_one _) ?_
     refine hK.out _ _ (fun hnz => ?s24) (fun _ => ?r24)
     case s24 => exact g915
     clear hK K
     try simp only [Pu]
     refine wpAnyZ_ready (rs := [18]) (by kernel_rfl) (by simp) ?_
     refine AllReadyZ.cons rfl (by rfl) (fun K hK => ?_) AllReadyZ.nil
     ·
      go_simp
      refine hK.out _ _ (fun hnz => absurd rfl hnz) (fun _ => ?_)
      clear hK K
      try simp only [Pu]
      refine wpAnyZ_done (by kernel_rfl) ?_ _
      go_wp2_with fail
      go_meet
      exact ⟨rfl, g915⟩
 case rest =>
 obtain ⟨rfl, hg3⟩ := hcut
 go_wp2
 go_ret
 exact ⟨rfl, Gr.trans (Gr.trans hg1 hg2) hg3⟩

end Go.Proofs.YtjapddfnpmlifaaGreatDoor
namespace Go.Proofs.YtjapddfnpmlifaaGreatDoor
set_option linter.unusedVariables false
set_option linter.unusedSimpArgs false
open Go.RowKit

theorem ranges_any {w : World} {R n : Nat} {s : ByteArray} {q : Rs} (h : Rdr w R s n q) (hs : (s.size : Int) ≤ 4096) :
  Calls Tryz.prog 163 #[.pointer (some ⟨R, 0, none⟩)] w fun e w' => e = .returned (.bool (rangesS q.rest)) ∧ Gr w w' := by
 cases hh : headIs 45 q.rest
 ·
  have e : rangesS q.rest = false := by
   match q.rest, hh with
   | [], _ => rfl
   | [_], _ => rfl
   | c :: d :: r, hh => simp only [headIs] at hh; simp [rangesS, hh]
  rw [e]
  exact rng_no h hs hh
 ·
  obtain ⟨c, r, hq, hc⟩ := headIs_cons hh
  have hcb : (c.toNat == 45) = true := by rw [hc]; rfl
  match r, hq with
  | [], hq => rw [hq]; exact rng_end h hs hc hq
  | d :: r, hq =>
   by_cases h93 : d.toNat = 93
   ·
    rw [hq, show rangesS (c :: d :: r) = false by simp [rangesS, hcb, h93]]
    exact rng_shut h hs hc hq h93
   ·
    have q93 : (d.toNat == 93) = false := beq_eq_false_iff_ne.2 h93
    by_cases h92 : d.toNat = 92
    ·
     have q92 : (d.toNat == 92) = true := by rw [h92]; rfl
     match r, hq with
     | [], hq => rw [hq, show rangesS [c, d] = true by simp [rangesS, hcb, q93]]; exact rng_last h hs hc hq h92
     | x :: r, hq => rw [hq, show rangesS (c :: d :: x :: r) = !isNamed x.toNat by simp [rangesS, hcb, q93, q92]]; exact rng_named h hs hc hq h92
    ·
     have q92 : (d.toNat == 92) = false := beq_eq_false_iff_ne.2 h92
     rw [hq, show rangesS (c :: d :: r) = true by simp [rangesS, hcb, q93, q92]]
     exact rng_plain h hs hc hq h93 h92
end Go.Proofs.YtjapddfnpmlifaaGreatDoor
