/- What known() of chapter 7 reckons, plainly. · Used, of a file system without files. · Create of a file system, at the name "a". · whisper.Create. · make([]byte, n). · Create of a file of two parts. · try · vfs.New. · known() of chapter 7: a point that is fetched. -/
import Derived.Test.YtoncapkmaeghfaaRunWiLay
import Derived.Test.YtoncapkmaeghfaaRunWiFet
import Derived.Test.YtoncapkmaeghfaaRunWhOff
import Derived.Test.YtoncapkmaeghfaaRunAgPut
import Derived.Test.YtoncapkmaeghfaaRunWhHdr
import Derived.Test.YtoncapkmaeghfaaRunAgPlain
import Derived.Test.YtoncapkmaeghfaaRunWhSpan
import Derived.Laws.MakeOwn
namespace Go.Proofs.Ytoncapkmaeghfaa
set_option linter.unusedVariables false
set_option linter.unusedSimpArgs false
open Go.RowKit

def kM : Arcs := [(1, 60), (60, 5)]
theorem kM_may : mayH 2 0 (ints kM) = true := by kernel_rfl
theorem kM_size : sizeS kM = 820 := by kernel_rfl
theorem known_n : (updS 2 0 kM 100 [(99, 5)] (0, newS 2 0 kM)).1 = 1 := by kernel_rfl
theorem known_v : fetV kM (updS 2 0 kM 100 [(99, 5)] (0, newS 2 0 kM)).2 100 98 99 = [⟨true, 5⟩] := by kernel_rfl
theorem known_s : startS kM (whichS kM (100 - frS kM 100 98)) (frS kM 100 98) = 99 := by kernel_rfl
end Go.Proofs.Ytoncapkmaeghfaa
namespace Go.Proofs.Ytoncapkmaeghfaa
set_option linter.unusedVariables false
set_option linter.unusedSimpArgs false
open Go.RowKit Go.ChangeMaps Go.Maps

set_option maxRecDepth 100000 in
set_option maxHeartbeats 6400000 in
theorem used_none {Y : Nat → Prop} {F P M : Nat} {R : Option Nat} {room : Int} {n : Nat} (w : World) (h : FsM Y w F P M R room n none) : Calls Try.prog 37 #[.pointer (some ⟨F, 0, none⟩)] w fun e w' => e = .returned (.int .i64 0) ∧ Gr w w' := by
 have f2 := h.f2
 obtain ⟨clk, hb⟩ := h.mp
 have hr := run_range_map (P := Try.prog) w 60 _ _ M #[] clk Try.underlying60 hb
 have hlm := h.lm
 clear h
 have HB := Lib.hid hb
 go_enter Try.func37, Try.ntmps37
 go_wp2
 obtain ⟨W1, hW1⟩ : ∃ W1, W1 = w.alloc (.mapIter (some M) clk #[] clk) := ⟨_, rfl⟩
 have g1 : Gr w W1 := by rw [hW1]; exact Gr.alloc (Gr.refl _) _
 have hi : W1.heap[w.heap.size]? = some (.mapIter (some M) clk #[] clk) := by rw [hW1]; exact heap_alloc_new _ _
 have hb1 : W1.heap[M]? = some (.map #[] clk) := (Below.block g1 M hlm).trans HB.out
 have hn := fun ty => next_none (P := Try.prog) ty hi hb1
 try rw [← hW1]
 clear hW1 hr hi hb1 hb
 go_loopw [3] (fun v wr => v = .int .i64 0 ∧ wr = W1) (fun _ _ => 0)
 case atStart => exact ⟨rfl, by first | trivial | rfl⟩
 case round =>
  obtain ⟨rfl, hww⟩ := hrel
  subst hww
  go_wp2
  go_ret
  exact ⟨rfl, g1⟩
end Go.Proofs.Ytoncapkmaeghfaa
namespace Go.Proofs.Ytoncapkmaeghfaa
set_option linter.unusedVariables false
set_option linter.unusedSimpArgs false
open Go.RowKit Go.ChangeMaps Go.Maps

set_option maxRecDepth 100000 in
set_option maxHeartbeats 6400000 in
theorem fcreate_has {Y : Nat → Prop} {F P M : Nat} {R : Option Nat} {room : Int} {n : Nat} {l : List UInt8} (v : Value) (w : World) (h : FsM Y w F P M R room n (some l)) : Calls Try.prog 21 #[.pointer (some ⟨F, 0, none⟩), .string nmA, v] w fun e w' => e = .returned (.int .i64 6) ∧ w = w' := by
 have f2 := h.f2
 obtain ⟨clk, born, g, c, hb, -⟩ := h.mp
 obtain ⟨kl, hkl⟩ := keyA
 have hl := look_one (P := Try.prog) Try.underlying60 keyedS hkl hb true
 simp only [if_true] at hl
 clear h hb
 go_enter Try.func21, Try.ntmps21
 go_wp2_with (go_at_call 35; refine (isName_any nmA _).mono ?_; rintro e w1 ⟨rfl, rfl⟩; rw [nmA_ok])
 go_ret
 exact ⟨rfl, rfl⟩
set_option maxRecDepth 100000 in
set_option maxHeartbeats 6400000 in
theorem fcreate_new {Y : Nat → Prop} {F P M : Nat} {R : Option Nat} {room : Int} {n : Nat} (pb k c : Nat) (L : List UInt8) (hL : (L.length : Int) ≤ room) (hroom : room ≤ 1073741824) (hn : n ≤ 1000000) (w : World) (h : FsM Y w F P M R room n none)
  (htot : ∀ W, Gr w W → Calls Try.prog 36 #[.int .i64 1073741824, .slice (some ⟨pb, 0, none⟩) k c] W fun e w' => e = .returned (.int .i64 (L.length : Nat)) ∧ Gr W w')
  (hjoin : ∀ W, Gr w W → Calls Try.prog 39 #[.slice (some ⟨pb, 0, none⟩) k c, .slice none 0 0] W fun e w' => ∃ g d, e = .returned (.slice (some ⟨g, 0, none⟩) L.length d) ∧ W.heap.size ≤ g ∧ L.length ≤ d ∧ Rb w' (some ⟨g, 0, none⟩) L ∧ Gr W w') :
  Calls Try.prog 21 #[.pointer (some ⟨F, 0, none⟩), .string nmA, .slice (some ⟨pb, 0, none⟩) k c] w fun e w' => e = .returned (.int .i64 0) ∧ ∃ R', FsM Y w' F P M R' room (n + 1) (some L) ∧ Kp (Tch P M R) w w' ∧ ∀ i, R' = some i → R = some i ∨ w.heap.size ≤ i := by
 have f2 := h.f2
 obtain ⟨clk, hb⟩ := h.mp
 obtain ⟨kl, hkl⟩ := keyA
 have hl := look_none (P := Try.prog) Try.underlying60 keyedS hkl (zeroSU w) hb true
 simp only [if_true] at hl
 have H0 := Lib.hid h
 have HTOT := Lib.hid htot
 have HJ := Lib.hid hjoin
 have hw1 : IntKind.i64.wrap room = room := IntWalk.i64_in room (by omega)
 have hw2 : ¬ room < (L.length : Int) := by omega
 have hw3 : decide (room < (L.length : Int)) = false := decide_eq_false hw2
 have hL9 : (L.length : Int) ≤ 1073741824 := by omega
 clear h hb htot hjoin
 go_enter Try.func21, Try.ntmps21
 go_upto_region 6 with (go_at_call 35; refine (isName_any nmA _).mono ?_; rintro e w1 ⟨rfl, rfl⟩; rw [nmA_ok])
 refine region_Q (by kernel_rfl) (by kernel_rfl) ?_
 refine q_val (v := ?_) (by rfl) (fun W hW => ?_) ?_; rotate_left; (focus go_simp; rfl); simp only [Pu]
 refine q_call (v := .int .i64 (L.length : Nat)) (f := ?qf2) (args := ?qa2) (by rfl) (fun W hW => ?qh2) (fun W hW => ?qc2) ?qr2
 case qh2 => go_simp; constructor <;> rfl
 case qc2 => exact (HTOT.out W hW).mono (fun e w' h => ⟨h.1, Gr.trans hW h.2⟩)
 simp only [Pu]
 iterate 3 (refine q_val (v := ?_) (by rfl) (fun W hW => ?_) ?_; rotate_left; (focus go_simp; rfl); simp only [Pu])
 refine q_val (v := ?qv6) (by rfl) (fun W hW => ?qh6) ?qr6
 case qh6 => have s1 := (Below.cell hW (p := ⟨F, 1, none⟩) H0.out.lf).trans H0.out.f1; go_simp; rfl
 simp only [Pu]
 refine q_val (v := ?_) (by rfl) (fun W hW => ?_) ?_; rotate_left; (focus go_simp; rfl); simp only [Pu]
 refine q_call (v := .int .i64 0) (f := ?qf8) (args := ?qa8) (by rfl) (fun W hW => ?qh8) (fun W hW => ?qc8) ?qr8
 case qh8 => go_simp; constructor <;> rfl
 case qc8 => exact (used_none W (H0.out.gr hW)).mono (fun e w' h => ⟨h.1, Gr.trans hW h.2⟩)
 simp only [Pu]
 iterate 2 (refine q_val (v := ?_) (by rfl) (fun W hW => ?_) ?_; rotate_left; (focus go_simp; rfl); simp only [Pu])
 refine wpQuiet_nil ?_
 intro w6 g6
 clear hl f2
 have HG6 := Lib.hid g6
 clear g6
 go_wp2_with (first | (go_at_call 39; refine (HJ.out _ HG6.out).mono ?_; rintro e w7 ⟨g, d, rfl, hg, hd, hr, g7⟩; have HR := Lib.hid (And.intro hd hr); have HG7 := Lib.hid (HG6.out.trans g7); clear hd hr g7 hg) | (go_at_call 38; refine (does_any 0 0 g L.length d hn _ (H0.out.gr HG7.out) (fun W gW => applies_create L g d hL9 W ((H0.out.gr HG7.out).gr gW) (HR.out.2.gr gW))).mono ?_; rintro e w8 ⟨rfl, R', hF, hK, hf⟩; have H8 := Lib.hid (And.intro hF (And.intro hK hf)); clear hF hK hf))
 go_ret
 refine ⟨rfl, _, H8.out.1, (Kp.of_gr (Tch P M R) HG7.out).trans H8.out.2.1 (fun _ _ e => e), fun i hi => ?_⟩
 rcases H8.out.2.2 i hi with e | e
 ·
  exact .inl e
 ·
  exact .inr (Nat.le_trans HG7.out.size e)
end Go.Proofs.Ytoncapkmaeghfaa
namespace Go.Proofs.Ytoncapkmaeghfaa
set_option linter.unusedVariables false
set_option linter.unusedSimpArgs false
open Go.RowKit Go.ChangeMaps Go.Maps

set_option maxRecDepth 100000 in
set_option maxHeartbeats 6400000 in
theorem wcreate_nil (s : ByteArray) (ag xf : Int) (A : Option Addr) (n c : Nat) (w : World) : Calls Try.prog 9 #[.pointer none, .string s, .agg #[.int .i64 ag, .int .i64 xf, .slice A n c]] w fun e w' => e = .returned (.int .i64 1) ∧ Gr w w' := by
 have HG : Hid (Gr w (w.alloc (.cells #[.int .i64 ag, .int .i64 xf, .slice A n c] 24))) := Lib.hid (Gr.alloc (Gr.refl w) _)
 go_enter Try.func9, Try.ntmps9
 go_wp2
 go_ret
 exact ⟨rfl, HG.out⟩
set_option maxRecDepth 100000 in
set_option maxHeartbeats 6400000 in
theorem wcreate_bad {Y : Nat → Prop} {F P M : Nat} {R : Option Nat} {room : Int} {n : Nat} {D : Option (List UInt8)} (ag xf : Int) (A : Option Addr) (c : Nat) (l : List (Int × Int)) (hll : l.length ≤ 400) (hM : mayH ag xf l = false) (w : World) (h : FsM Y w F P M R room n D) (hr : Ri w A l) : Calls Try.prog 9 #[.pointer (some ⟨F, 0, none⟩), .string nmA, .agg #[.int .i64 ag, .int .i64 xf, .slice A l.length c]] w fun e w' => e = .returned (.int .i64 1) ∧ Gr w w' := by
 obtain ⟨V, hV⟩ : ∃ V, V = w.alloc (.cells #[.int .i64 ag, .int .i64 xf, .slice A l.length c] 24) := ⟨_, rfl⟩
 have gV : Gr w V := by rw [hV]; exact Gr.alloc (Gr.refl w) _
 have c0 : V.cell? ⟨w.heap.size, 0, none⟩ = some (.int .i64 ag) := by rw [hV]; go_simp
 have c1 : V.cell? ⟨w.heap.size, 1, none⟩ = some (.int .i64 xf) := by rw [hV]; go_simp
 have c2 : V.cell? ⟨w.heap.size, 2, none⟩ = some (.slice A l.length c) := by rw [hV]; go_simp
 have HE := Lib.hid (hencode_no ag xf A c l hll hM V (hr.gr gV))
 have HV := Lib.hid hV
 have HG := Lib.hid gV
 clear hV gV hr hM hll h
 go_enter Try.func9, Try.ntmps9
 go_upto_region 1 with (fail)
 rw [← HV.out]
 clear HV
 go_wp2_with (go_at_call 20; refine HE.out.mono ?_; rintro e w1 ⟨rfl, g1⟩; have HG1 := Lib.hid (HG.out.trans g1); clear g1)
 go_ret
 exact ⟨rfl, HG1.out⟩
end Go.Proofs.Ytoncapkmaeghfaa
namespace Go.Proofs.Ytoncapkmaeghfaa
set_option linter.unusedVariables false
set_option linter.unusedSimpArgs false
open Go.RowKit

/-- make([]byte, n): a new block of n noughts. -/
theorem make_bytes (n : Nat) (hn : (n : Int) ≤ 1048576) (w : World) : (Instr.makeSlice 66 (.int .i64 (n : Nat)) (.int .i64 (n : Nat))).run Try.prog w = .ok (.slice (some ⟨w.heap.size, 0, none⟩) n n) (w.alloc (.cells (bys (List.replicate n 0)).toArray 5)) := by
 obtain ⟨i0, hi0, hz0, hz1, hz2⟩ := info_parts info_u8
 have h := run_makeSlice (P := Try.prog) (w := w) 66 5 i0 (.int .u8 0) Try.underlying66 hi0 hz0 .i64 .i64 (n : Nat) (n : Nat) (by omega) (Int.le_refl _) (by rw [hz1]; simp; omega) (by rw [hz2]; omega) (by omega)
 rw [h, hz1]
 simp only [Int.toNat_natCast, Nat.mul_one]
 have e : madeCells (Value.cells (.int .u8 0)) n = (bys (List.replicate n 0)).toArray := by
  apply Array.ext
  ·
   simp [madeCells, bys]
  ·
   intro i h1 h2
   simp [madeCells, bys, Value.cells]
   rw [Nat.mod_one]
   rfl
 rw [e]
end Go.Proofs.Ytoncapkmaeghfaa
namespace Go.Proofs.Ytoncapkmaeghfaa
set_option linter.unusedVariables false
set_option linter.unusedSimpArgs false
open Go.RowKit Go.ChangeMaps Go.Maps

theorem two_parts (w : World) (B Zs : List UInt8) (p : Addr) (c : Nat) (hb : Rb w (some p) B) (n : Nat) (hn : n = Zs.length) : Pts ((w.alloc (.cells (bys Zs).toArray 5)).alloc (.cells #[.slice (some p) B.length c, .slice (some ⟨w.heap.size, 0, none⟩) n n] 66)) (w.heap.size + 1) [B, Zs] ∧ Gr w ((w.alloc (.cells (bys Zs).toArray 5)).alloc (.cells #[.slice (some p) B.length c, .slice (some ⟨w.heap.size, 0, none⟩) n n] 66)) := by
 subst hn
 have g1 : Gr w (w.alloc (.cells (bys Zs).toArray 5)) := Gr.alloc (Gr.refl _) _
 have g2 : Gr (w.alloc (.cells (bys Zs).toArray 5)) ((w.alloc (.cells (bys Zs).toArray 5)).alloc (.cells #[.slice (some p) B.length c, .slice (some ⟨w.heap.size, 0, none⟩) Zs.length Zs.length] 66)) := Gr.alloc (Gr.refl _) _
 have hz : Rb (w.alloc (.cells (bys Zs).toArray 5)) (some ⟨w.heap.size, 0, none⟩) Zs := Rd.newU (W := w) rfl _ (bys Zs) (bys_length Zs)
 refine ⟨fun k hk => ?_, g1.trans g2⟩
 match k, hk with
 | 0, _ => exact ⟨p, c, by go_simp, hb.gr (g1.trans g2)⟩
 | 1, _ => exact ⟨⟨w.heap.size, 0, none⟩, Zs.length, by go_simp, hz.gr g2⟩
 | k + 2, h => exact absurd h (by simp)
theorem fcreate_two {Y : Nat → Prop} {F P M : Nat} {R : Option Nat} {room : Int} {n : Nat} (pb c : Nat) (B Zs : List UInt8) (hB0 : 0 < B.length) (hL : ((B ++ Zs).length : Int) ≤ room) (hroom : room ≤ 1073741824) (hn : n ≤ 1000000) (hc : 2 ≤ c) (w : World) (h : FsM Y w F P M R room n none) (hp : Pts w pb [B, Zs]) :
  Calls Try.prog 21 #[.pointer (some ⟨F, 0, none⟩), .string nmA, .slice (some ⟨pb, 0, none⟩) 2 c] w fun e w' => e = .returned (.int .i64 0) ∧ ∃ R', FsM Y w' F P M R' room (n + 1) (some (B ++ Zs)) ∧ Kp (Tch P M R) w w' ∧ ∀ i, R' = some i → R = some i ∨ w.heap.size ≤ i := by
 have hlen : (B ++ Zs).length = B.length + Zs.length := List.length_append
 have hs : ([B, Zs].map List.length).sum = (B ++ Zs).length := by rw [hlen]; simp
 refine fcreate_new pb 2 c (B ++ Zs) hL hroom hn w h (fun W gW => ?_) (fun W gW => join_two pb c B Zs hB0 (by omega) hc W (hp.gr gW))
 refine (total_any pb 0 2 c [B, Zs] rfl (by omega) (by rw [hs]; omega) W (fun k hk => ?_)).mono ?_
 ·
  obtain ⟨p, d, h1, -⟩ := (hp.gr gW) k hk
  exact ⟨some p, d, by rw [Nat.zero_add]; exact h1⟩
 ·
  rintro e w' ⟨rfl, rfl⟩
  exact ⟨by rw [hs], Gr.refl _⟩
end Go.Proofs.Ytoncapkmaeghfaa
namespace Go.Proofs.Ytoncapkmaeghfaa
set_option linter.unusedVariables false
set_option linter.unusedSimpArgs false
open Go.RowKit Go.ChangeMaps Go.Maps
set_option maxRecDepth 100000 in
set_option maxHeartbeats 6400000 in
theorem wcreate_any {Y : Nat → Prop} {F P M : Nat} {R : Option Nat} {room : Int} {n : Nat} (ag xf : Nat) (A : Option Addr) (c : Nat) (m : List (Nat × Nat)) (hM : mayH ag xf (ints m) = true) (hcap : m.length ≤ c) (hn : n ≤ 1000000) (hr1 : (sizeS m : Int) ≤ room) (hr2 : room ≤ 1073741824) (w : World) (h : FsM Y w F P M R room n none) (hr : Ri w A (ints m)) : Calls Try.prog 9 #[.pointer (some ⟨F, 0, none⟩), .string nmA, .agg #[.int .i64 ag, .int .i64 xf, .slice A m.length c]] w fun e w' => e = .returned (.int .i64 0) ∧ FsM Y w' F P M none room 0 (some (hdrS ag xf m ++ List.replicate (sizeS m - (16 + 12 * m.length)) 0)) ∧ Kp (Tch P M R) w w' := by
 obtain ⟨i0, hi0, hz0, hz1, hz2⟩ := info_parts info_u8
 obtain ⟨V, hV⟩ : ∃ V, V = w.alloc (.cells #[.int .i64 ag, .int .i64 xf, .slice A m.length c] 24) := ⟨_, rfl⟩
 have gV : Gr w V := by rw [hV]; exact Gr.alloc (Gr.refl w) _
 have hz : w.heap.size < V.heap.size := by rw [hV]; simp
 have c0 : V.cell? ⟨w.heap.size, 0, none⟩ = some (.int .i64 ag) := by rw [hV]; go_simp
 have c1 : V.cell? ⟨w.heap.size, 1, none⟩ = some (.int .i64 xf) := by rw [hV]; go_simp
 have c2 : V.cell? ⟨w.heap.size, 2, none⟩ = some (.slice A m.length c) := by rw [hV]; go_simp
 have HE := Lib.hid (hencode_any ag xf A c m hM hcap V (hr.gr gV))
 have hf := mayS_facts (m := m) (by have h := hM; unfold mayH at h; rw [Bool.and_eq_true, nats_ints] at h; exact h.2)
 have hss := fun W (hW : Ri W A (ints m)) => hsize_any ag xf A c (ints m) (by rw [ints_len]; omega) W hW
 rw [hM, nats_ints, ints_len] at hss
 have hsz := sizeS_eq m
 have hsl := hdrS_len ag xf m
 obtain ⟨S, hS⟩ : ∃ S, S = sizeS m := ⟨_, rfl⟩
 obtain ⟨B, hB⟩ : ∃ B, B = hdrS ag xf m := ⟨_, rfl⟩
 rw [← hS] at hss hsz hf hr1 ⊢
 rw [← hB] at hsl HE ⊢
 rw [← hsl] at hsz ⊢
 have hKS : (B.length : Int) ≤ (S : Int) := by omega
 have hSi : (S : Int) ≤ 1048576 := by omega
 have hK0 : B.length ≤ 112 := by omega
 have hw1 : IntKind.i64.wrap ((S : Int) - (B.length : Int)) = (S : Int) - (B.length : Int) := IntWalk.i64_in _ (by omega)
 have hw2 : ¬ (S : Int) - (B.length : Int) < 0 := by omega
 obtain ⟨Z, hZ⟩ : ∃ Z, Z = S - B.length := ⟨_, rfl⟩
 have hZi : (Z : Int) = (S : Int) - (B.length : Int) := by omega
 have hmk := fun W => make_bytes Z (by omega) W
 rw [hZi] at hmk
 rw [← hZ]
 have hB0 : 0 < B.length := by omega
 have hBZ : (B ++ List.replicate Z 0).length = S := by rw [List.length_append, List.length_replicate]; omega
 have HBZ := Lib.hid hBZ
 have hZl : Z = (List.replicate Z (0 : UInt8)).length := by rw [List.length_replicate]
 have HZL := Lib.hid hZl
 have HSR : Hid ((S : Int) ≤ room) := Lib.hid (by omega)
 clear hZ hZi hZl hBZ
 have HSS := Lib.hid hss
 have HR := Lib.hid (hr.gr gV)
 have HV := Lib.hid hV
 have HG := Lib.hid gV
 have H0 := Lib.hid (h.gr gV)
 have HX := Lib.hid (And.intro hf (And.intro hsz (And.intro hS (And.intro hB hsl))))
 clear hV gV hr hM h hss hf hsz hS hB hsl
 go_enter Try.func9, Try.ntmps9
 go_upto_region 1 with (fail)
 rw [← HV.out]
 clear HV
 go_upto_region 6 with (go_at_call 20; refine HE.out.mono ?_; rintro e w1 ⟨A5, c5, rfl, hc5, hb5, g1, hf5⟩; have d0 := (Below.cell g1 (p := ⟨w.heap.size, 0, none⟩) hz).trans c0; have d1 := (Below.cell g1 (p := ⟨w.heap.size, 1, none⟩) hz).trans c1; have d2 := (Below.cell g1 (p := ⟨w.heap.size, 2, none⟩) hz).trans c2; have HG1 := Lib.hid g1; obtain ⟨p5, rfl, hp5, -⟩ := hb5.2 hB0; have HB5 := Lib.hid (And.intro hb5 hp5); clear g1 hb5 hf5 hp5)
 go_wp2_with (first | (go_at_call 22; refine (HSS.out _ (HR.out.gr HG1.out)).mono ?_; rintro e w2 ⟨rfl, g2⟩; have HG2 := Lib.hid (HG1.out.trans g2); have HB2 := Lib.hid (HB5.out.1.gr g2); clear g2) | (go_at_call 21; refine (fcreate_two (w2.heap.size + 1) 2 B (List.replicate Z 0) hB0 (by rw [HBZ.out]; exact HSR.out) hr2 hn (by omega) _ ((H0.out.gr HG2.out).gr (two_parts w2 B (List.replicate Z 0) p5 c5 HB2.out Z HZL.out).2) (two_parts w2 B (List.replicate Z 0) p5 c5 HB2.out Z HZL.out).1).mono ?_; rintro e w8 ⟨rfl, R', hF, hK, hf⟩; have H8 := Lib.hid (And.intro hF (And.intro (hK.size) (And.intro hf ((Kp.of_gr (Tch P M R) (HG.out.trans (HG2.out.trans (two_parts w2 B (List.replicate Z 0) p5 c5 HB2.out Z HZL.out).2))).trans hK (fun _ _ e => e))))); clear hF hK hf) | (go_at_call 23; refine (sync_any _ H8.out.1).mono ?_; rintro e w9 ⟨rfl, hF, hK⟩; have H9 := Lib.hid (And.intro hF (H8.out.2.2.2.trans hK (fun _ _ e => .inl e))); clear hF hK))
 go_ret
 exact ⟨rfl, H9.out⟩
end Go.Proofs.Ytoncapkmaeghfaa
namespace Go.Proofs.Ytoncapkmaeghfaa
set_option linter.unusedVariables false
set_option linter.unusedSimpArgs false
open Go.RowKit Go.ChangeMaps Go.Maps

set_option maxRecDepth 100000 in
set_option maxHeartbeats 6400000 in
theorem vnew_any (room : Int) (h0 : 0 ≤ room) (h1 : room ≤ 1073741824) (w : World) : Calls Try.prog 8 #[.int .i64 room] w fun e w' => e = .returned (.tuple #[.pointer (some ⟨w.heap.size + 3, 0, none⟩), .int .i64 0]) ∧ FsM (fun _ => False) w' (w.heap.size + 3) (w.heap.size + 1) (w.heap.size + 2) none room 0 none ∧ Gr w w' := by
 obtain ⟨V, hV⟩ : ∃ V, V = (((w.alloc (.map #[] 0)).alloc (.cells #[.slice none 0 0, .map (some w.heap.size)] 63)).alloc (.map #[] 0)).alloc (.cells #[.pointer (some ⟨w.heap.size + 1, 0, none⟩), .int .i64 room, .map (some (w.heap.size + 2))] 65) := ⟨_, rfl⟩
 have gV : Gr w V := by rw [hV]; exact Gr.alloc (Gr.alloc (Gr.alloc (Gr.alloc (Gr.refl w) _) _) _) _
 have hz : V.heap.size = w.heap.size + 4 := by rw [hV]; simp
 have hm : V.heap[w.heap.size + 2]? = some (.map #[] 0) := by
  rw [hV, heap_alloc_old _ _ (by simp)]
  have e : w.heap.size + 2 = ((w.alloc (.map #[] 0)).alloc (.cells #[.slice none 0 0, .map (some w.heap.size)] 63)).heap.size := by simp
  rw [e]
  exact heap_alloc_new _ _
 have HF : Hid (FsM (fun _ => False) V (w.heap.size + 3) (w.heap.size + 1) (w.heap.size + 2) none room 0 none) := Lib.hid ⟨by omega, by omega, by omega, by omega, by omega, by omega, by rw [hV]; go_simp, by rw [hV]; go_simp, by rw [hV]; go_simp,
  ⟨.slice none 0 0, [], by rw [hV]; go_simp, rfl, World.ownsRow_nil _ _ _ _⟩, ⟨.map (some w.heap.size), by rw [hV]; go_simp⟩, by rw [hV]; go_simp, by rw [hV]; go_simp, (fun _ e => by cases e), (fun _ e => e.elim), ⟨0, hm⟩⟩
 have HV := Lib.hid hV
 have HG := Lib.hid gV
 have hm1 : ¬ room < 0 := by omega
 have hm2 : ¬ 1073741824 < room := by omega
 clear hV gV hm hz
 have hmm := @run_makeMap Try.prog
 go_enter Try.func8, Try.ntmps8
 go_wp2
 go_ret2
 refine ⟨rfl, ?_, ?_⟩
 ·
  have := HF.out
  rw [HV.out] at this
  exact this
 ·
  have := HG.out
  rw [HV.out] at this
  exact this
end Go.Proofs.Ytoncapkmaeghfaa
namespace Go.Proofs.Ytoncapkmaeghfaa
set_option linter.unusedVariables false
set_option linter.unusedSimpArgs false
open Go.RowKit

theorem nmA_eq : (⟨#[97]⟩ : ByteArray) = nmA := by kernel_rfl
theorem gr_tch {w w1 w2 : World} {P M : Nat} {R : Option Nat} (g : Gr w w1) (k : Kp (Tch P M R) w1 w2) (hP : w.heap.size ≤ P) (hM : w.heap.size ≤ M) (hR : ∀ i, R = some i → w.heap.size ≤ i) : Gr w w2 :=
 ((Kp.of_gr (Tch P M R) g).trans k (fun _ _ e => e)).gr (fun i hi e => by
  rcases e with e | e | e
  ·
   omega
  ·
   omega
  ·
   have := hR i e; omega)
/-- a new row of two numbers each. -/
theorem Ri.lit2 (w : World) (a b c d : Int) (T : TypeId) : Ri (w.alloc (.cells #[.int .i64 a, .int .i64 b, .int .i64 c, .int .i64 d] T)) (some ⟨w.heap.size, 0, none⟩) [(a, b), (c, d)] := fun _ => by
 refine ⟨w.heap.size, rfl, by simp, fun k hk => ?_⟩
 match k, hk with
 | 0, _ => exact ⟨by go_simp, by go_simp⟩
 | 1, _ => exact ⟨by go_simp, by go_simp⟩
theorem Ri.lit1 (w : World) (a b : Int) (T : TypeId) : Ri (w.alloc (.cells #[.int .i64 a, .int .i64 b] T)) (some ⟨w.heap.size, 0, none⟩) [(a, b)] := fun _ => by
 refine ⟨w.heap.size, rfl, by simp, fun k hk => ?_⟩
 match k, hk with
 | 0, _ => exact ⟨by go_simp, by go_simp⟩
set_option maxRecDepth 100000 in
set_option maxHeartbeats 6400000 in
theorem known7_any (w : World) : Calls Try.prog 12 #[] w fun e w' => e = .returned (.bool true) ∧ Gr w w' := by
 have hnm := nmA_eq
 obtain ⟨KD, hKD⟩ : ∃ KD, KD = (updS 2 0 kM 100 [(99, 5)] (0, newS 2 0 kM)).2 := ⟨_, rfl⟩
 have hF := MayF.ofH kM_may
 have hok : HdOk 2 0 kM KD := by rw [hKD]; exact HdOk.upd hF _ _ (newS_ok 2 0 kM)
 have hop := opS_hdr kM_may hok
 have hop0 := opS_hdr kM_may (newS_ok 2 0 kM)
 have hl0 : ((newS 2 0 kM).length : Int) ≤ 1073741824 := by rw [(newS_ok 2 0 kM).1, kM_size]; omega
 have hlK : (KD.length : Int) ≤ 1073741824 := by rw [hok.1, kM_size]; omega
 have hv := known_v
 have hn := known_n
 rw [← hKD] at hv
 have HK := Lib.hid (And.intro hop (And.intro hop0 (And.intro hl0 (And.intro hlK (And.intro hv (And.intro hn hKD))))))
 clear hF hok hop hop0 hl0 hlK hv hn hKD hnm
 go_enter Try.func12, Try.ntmps12
 go_upto_region 3 with (go_at_call 8; refine (vnew_any 65536 (by omega) (by omega) _).mono ?_; rintro e w1 ⟨rfl, hf1, g1⟩; have H1 := Lib.hid (And.intro hf1 g1); clear hf1 g1)
 obtain ⟨V, hV⟩ : ∃ V, V = (w1.alloc (.cells #[.int .i64 1, .int .i64 60, .int .i64 60, .int .i64 5] 30)).alloc (.cells #[.int .i64 2, .int .i64 0, .slice (some ⟨w1.heap.size, 0, none⟩) 2 2] 24) := ⟨_, rfl⟩
 have gV : Gr w1 V := by rw [hV]; exact Gr.alloc (Gr.alloc (Gr.refl w1) _) _
 have c0 : V.cell? ⟨w1.heap.size + 1, 0, none⟩ = some (.int .i64 2) := by rw [hV]; go_simp
 have c1 : V.cell? ⟨w1.heap.size + 1, 1, none⟩ = some (.int .i64 0) := by rw [hV]; go_simp
 have c2 : V.cell? ⟨w1.heap.size + 1, 2, none⟩ = some (.slice (some ⟨w1.heap.size, 0, none⟩) 2 2) := by rw [hV]; go_simp
 have hri : Ri V (some ⟨w1.heap.size, 0, none⟩) (ints kM) := by
  rw [hV, show ints kM = [(1, 60), (60, 5)] from by kernel_rfl]
  exact (Ri.lit2 w1 1 60 60 5 _).gr (Gr.alloc (Gr.refl _) _)
 rw [← hV]
 obtain ⟨F, hF⟩ : ∃ F, F = w.heap.size + 3 := ⟨_, rfl⟩
 obtain ⟨P, hP⟩ : ∃ P, P = w.heap.size + 1 := ⟨_, rfl⟩
 obtain ⟨M, hM⟩ : ∃ M, M = w.heap.size + 2 := ⟨_, rfl⟩
 rw [← hF, ← hP, ← hM] at H1
 rw [← hF]
 have HPM := Lib.hid (show w.heap.size ≤ P ∧ w.heap.size ≤ M by omega)
 have hcr := wcreate_any 2 0 (some ⟨w1.heap.size, 0, none⟩) 2 kM kM_may (by decide) (by omega) (by rw [kM_size]; omega) (by omega) V (H1.out.1.gr gV) hri
 rw [← nmA_eq] at hcr
 have HCR : Hid (Calls Try.prog 9 #[.pointer (some ⟨F, 0, none⟩), .string ⟨#[97]⟩, .agg #[.int .i64 2, .int .i64 0, .slice (some ⟨w1.heap.size, 0, none⟩) 2 2]] V fun e w' => e = .returned (.int .i64 0) ∧ FsM (fun _ => False) w' F P M none 65536 0 (some (newS 2 0 kM)) ∧ Kp (Tch P M none) V w') := Lib.hid hcr
 have HGV := Lib.hid (H1.out.2.trans gV)
 clear hV gV hri hF hP hM hcr
 go_upto_region 4 with (go_at_call 9; refine HCR.out.mono ?_; rintro e w2 ⟨rfl, hf2, hk2⟩; have H2 := Lib.hid (And.intro hf2 (gr_tch HGV.out hk2 HPM.out.1 HPM.out.2 (fun _ e => by cases e))); clear hf2 hk2)
 clear c0 c1 c2
 obtain ⟨V3, hV3⟩ : ∃ V3, V3 = w2.alloc (.cells #[.int .i64 99, .int .i64 5] 26) := ⟨_, rfl⟩
 have g3 : Gr w2 V3 := by rw [hV3]; exact Gr.alloc (Gr.refl w2) _
 have hup := wupdate_any HK.out.2.2.1 HK.out.2.1 100 (by omega) (by omega) (some ⟨w2.heap.size, 0, none⟩) 1 [(99, 5)] (by decide) (by omega) V3 (H2.out.1.gr g3) (by rw [hV3]; exact Ri.lit1 w2 99 5 _) (fun ad e => by
  injection e with e
  subst e
  intro e
  have h1 := H2.out.1.lp
  have h2 := H2.out.1.lm
  rcases e with e | e | e
  ·
   simp only at e; omega
  ·
   simp only at e; omega
  ·
   cases e)
 rw [← nmA_eq] at hup
 have e1 : (updS ((2 : Nat) : Int) ((0 : Nat) : Int) kM 100 [(99, 5)] (0, newS 2 0 kM)).1 = 1 := HK.out.2.2.2.2.2.1
 have e2 : (updS ((2 : Nat) : Int) ((0 : Nat) : Int) kM 100 [(99, 5)] (0, newS 2 0 kM)).2 = KD := HK.out.2.2.2.2.2.2.symm
 rw [e1, e2] at hup
 have HUP : Hid (Calls Try.prog 10 #[.pointer (some ⟨F, 0, none⟩), .string ⟨#[97]⟩, .int .i64 100, .slice (some ⟨w2.heap.size, 0, none⟩) 1 1] V3 fun e w' => e = .returned (.tuple #[.int .i64 1, .int .i64 0]) ∧ FsM (fun _ => False) w' F P M none 65536 0 (some KD) ∧ Kp (Tch P M none) V3 w') := Lib.hid hup
 have HG3 := Lib.hid (H2.out.2.trans g3)
 have HV3 := Lib.hid hV3
 clear hup e1 e2 hV3 g3
 have HFE : Hid (∀ W, FsM (fun _ => False) W F P M none 65536 0 (some KD) → Calls Try.prog 13 #[.pointer (some ⟨F, 0, none⟩), .string ⟨#[97]⟩, .int .i64 100, .int .i64 98, .int .i64 99] W fun e w' => Gr W w' ∧ ∃ A c k, e = .returned (.tuple #[.agg #[.string nmA, .int .i64 99, .int .i64 k, .slice A 1 c, .int .i64 0], .int .i64 0]) ∧ Rv w' A [⟨true, 5⟩]) := Lib.hid (fun W hW => by
  have h := wfetch_any HK.out.2.2.2.1 HK.out.1 100 98 99 (by omega) (by omega) (by omega) (by omega) (by omega) (by rw [show spanS kM = 300 from by kernel_rfl]; omega) W hW
  rw [← nmA_eq] at h
  refine h.mono ?_
  rintro e w' ⟨hg, A, c, rfl, hr⟩
  rw [HK.out.2.2.2.2.1] at hr ⊢
  rw [known_s]
  exact ⟨hg, A, c, _, rfl, hr⟩)
 go_wp2_with (first | (go_at_call 10; rw [← HV3.out]; refine HUP.out.mono ?_; rintro e w4 ⟨rfl, hf4, hk4⟩; have H4 := Lib.hid (And.intro hf4 (gr_tch HG3.out hk4 HPM.out.1 HPM.out.2 (fun _ e => by cases e))); clear hf4 hk4) | (go_at_call 13; refine (HFE.out _ H4.out.1).mono ?_; rintro e w5 ⟨g5, A, c, k, rfl, hr⟩; obtain ⟨ad, rfl, hb, hx0, hx1⟩ := hr.at (show 0 < 1 by decide); have y0 : w5.cell? ad = some (.bool true) := hx0; have y1 : w5.cell? ⟨ad.block, ad.off + 1, none⟩ = some (.int .i64 5) := hx1; have HG5 := Lib.hid (H4.out.2.trans g5); clear g5 hr hx0 hx1))
 go_ret
 exact ⟨rfl, HG5.out.alloc _⟩
end Go.Proofs.Ytoncapkmaeghfaa
