/- The law RexClasses. -/
import Derived.Test.YtpcmdijgepbilaaRxClassP
namespace Go.Proofs.Ytpcmdijgepbilaa
set_option linter.unusedVariables false
set_option linter.unusedSimpArgs false
open Go.RowKit

def ClsR (w : World) (l : List UInt8) (cn k : Nat) (sb : ByteArray) (I : Bool) (wr : World) : Prop := sb.data.toList = escL (l.take k) ∧ I = inL (l.take k) cn ∧ Gr w wr
theorem own_lit1 (w : World) (b : UInt8) : (w.alloc (.cells #[.int .u8 (b.toNat : Int)] 5)).ownsRow 0 5 1 (.slice (some ⟨w.heap.size, 0, none⟩) [b].length 1) [b].length (bcells [b]) :=
  World.ownsRow_lit (base := 0) (e := 5) (size := 1) w #[.int .u8 (b.toNat : Int)] 1 (Nat.zero_le _) (by decide) rfl
theorem own_lit2 (w : World) (b : UInt8) : (w.alloc (.cells #[.int .u8 92, .int .u8 (b.toNat : Int)] 5)).ownsRow 0 5 1 (.slice (some ⟨w.heap.size, 0, none⟩) [92, b].length 2) [92, b].length (bcells [92, b]) :=
  World.ownsRow_lit (base := 0) (e := 5) (size := 1) w #[.int .u8 92, .int .u8 (b.toNat : Int)] 2 (Nat.zero_le _) (by decide) rfl
theorem cell_alloc_old (w : World) (o : Obj) (p : Addr) (h : p.block < w.heap.size) : (w.alloc o).cell? p = w.cell? p := Below.cell (Gr.alloc (Gr.refl w) o) h
theorem ClsR.next {w wr w' : World} {l : List UInt8} {cn k : Nat} {sb t : ByteArray} {I I' : Bool} {b : UInt8} (h : ClsR w l cn k sb I wr) (ht : t.data.toList = esc1 b) {hkl : k < l.length} (hb : b = l[k]) (_ : k < l.length) (hI : I' = (I || (cn == b.toNat))) (g : Gr wr w') : ClsR w l cn (k + 1) (sb ++ t) I' w' := by
  obtain ⟨h1, h2, h3⟩ := h
  have e : l.take (k + 1) = l.take k ++ [b] := by rw [List.take_succ_eq_append_getElem hkl, hb]
  refine ⟨?_, ?_, h3.trans g⟩
  · rw [e]
    simp [ByteArray.data_append, h1, ht, escL]
  · rw [e, hI, h2]
    simp [inL]
theorem class_comp (s : ByteArray) (hs : s.size ≤ 500) {r : List UInt8} {f : Bs} (ht : s.data.toList = 91 :: r) (hf : classS r = (some f, [])) (w : World) :
    Calls Try.prog 7 #[.string s] w fun e w' => ∃ g c, e = .returned (.tuple #[.agg #[.int .i64 0, .slice (some ⟨g, 0, none⟩) 4 c], .int .i64 0]) ∧ Gr w w' ∧ w.heap.size ≤ g ∧ g < w'.heap.size ∧ w'.cell? ⟨g, 7, none⟩ = some (.string ⟨(pairsS f).toArray⟩) := by
  refine (compile_any s hs w).mono ?_
  rintro e w' ⟨A, c, he, hr, hg, hA⟩
  obtain ⟨h1, h2⟩ := code_class hf
  have h0 : grpX (91 :: r) = 0 := by unfold grpX; rw [h1, read_class hf]; rfl
  have h3 : codeY (91 :: r) = [⟨4, 0, 0, []⟩, ⟨1, 0, 0, pairsS f⟩, ⟨4, 1, 0, []⟩, ⟨7, 0, 0, []⟩] := by unfold codeY; rw [h1, h2]; rfl
  rw [ht, h0, h1, h3] at he
  rw [ht, h3] at hr
  obtain ⟨ad, rfl, hlt, hc⟩ := hr.2 (by simp)
  obtain ⟨e1, e2⟩ := hA ad rfl
  rw [e1] at he hr
  exact ⟨ad.block, c, he, hg, e2, hlt, hr.cell0 (by simp) 7 _ rfl⟩
theorem alnB_iff (b : Nat) : alnB b = true ↔ (97 ≤ b ∧ b ≤ 122) ∨ (65 ≤ b ∧ b ≤ 90) ∨ (48 ≤ b ∧ b ≤ 57) := by
  simp only [alnB, Bool.or_eq_true, Bool.and_eq_true, Nat.ble_eq]
theorem has_cls (f : Bs) (cn : Nat) (hc : cn < 256) (I : Bool) (h : f cn = I) (w : World) : Calls Try.prog 10 #[.string ⟨(pairsS f).toArray⟩, .int .u8 cn] w fun e w' => e = .returned (.bool I) ∧ w = w' := by
  have hl := pairsT_len f 256
  have := has_any ⟨(pairsS f).toArray⟩ (by show ((pairsT f 256).toArray.size : Int) ≤ _; simp; omega) cn w
  rw [show (⟨(pairsS f).toArray⟩ : ByteArray).data.toList = pairsS f from rfl, has_pairs f cn hc, h] at this
  exact this
set_option maxRecDepth 100000 in
set_option maxHeartbeats 6400000 in
theorem classes_go (A : Option Addr) (ca : Nat) (l : List UInt8) (cn : Nat) (hcn : cn < 256) (w : World) (h0 : 0 < l.length) (h20 : l.length ≤ 20) (hr : Rd w 1 A l.length (bcells l)) :
    Calls Try.prog 6 #[.slice A l.length ca, .int .u8 cn] w fun e w' => e = .returned (.bool true) ∧ Gr w w' := by
  obtain ⟨n, hn⟩ : ∃ n, n = l.length := ⟨_, rfl⟩
  rw [← hn] at h0 h20 hr ⊢
  have h1 : ¬ (n : Int) < 1 := by omega
  have h2 : ¬ (20 : Int) < (n : Int) := by omega
  obtain ⟨ad, rfl, hlt, hcell⟩ := hr.2 h0
  have Hc := Lib.hid hcell
  have Hn := Lib.hid hn
  clear hcell hr hn
  go_enter Try.func6, Try.ntmps6
  go_wp2
  clear h1 h2
  go_loopw [5, 6, 7] (fun s b i wr => ∃ (k : Nat) (sb : ByteArray) (I : Bool), k ≤ n ∧ i = .int .i64 k ∧ s = .string sb ∧ b = .bool I ∧ ClsR w l cn k sb I wr) (fun _ _ i _ => n - (intOf i).toNat)
  case atStart => exact ⟨0, _, _, Nat.zero_le _, rfl, rfl, rfl, rfl, rfl, Gr.refl _⟩
  case round =>
    obtain ⟨k, sb, I, hk, rfl, rfl, rfl, HR⟩ := hrel
    by_cases hlt2 : k < n
    · have hkl : k < l.length := by rw [← Hn.out]; exact hlt2
      obtain ⟨b, hb⟩ : ∃ b, b = l[k] := ⟨_, rfl⟩
      obtain ⟨x, hx⟩ : ∃ x, x = b.toNat := ⟨_, rfl⟩
      have hx256 : x < 256 := by rw [hx]; exact b.toNat_lt
      have hcw : wr.cell? (ad.add k) = some (.int .u8 x) := (HR.2.2.cell (by rw [add_blk]; exact hlt)).trans (Hc.out k _ (by rw [hx, hb]; simp [bcells, List.getElem?_eq_getElem hkl]))
      have hsz : sb.size ≤ 40 := by
        have e := congrArg List.length HR.1
        have := (escL_len (l.take k)).2
        have h3 : (l.take k).length ≤ 20 := by rw [List.length_take]; omega
        simp at e
        omega
      have HB := Lib.hid (And.intro hb hx)
      have HR' := Lib.hid HR
      clear hb hx HR
      have hu := own_lit1 wr b
      rw [← HB.out.2] at hu
      have hconv1 : (convert 39 9 (.slice (some ⟨wr.heap.size, 0, none⟩) 1 1)).run Try.prog (wr.alloc (.cells #[.int .u8 x] 5)) = .ok (.string ⟨#[b]⟩) (wr.alloc (.cells #[.int .u8 x] 5)) := conv_own und_bytes und_u8 und_str hu
      have hu2 := own_lit2 wr b
      rw [← HB.out.2] at hu2
      have hconv2 : (convert 39 9 (.slice (some ⟨wr.heap.size, 0, none⟩) 2 2)).run Try.prog (wr.alloc (.cells #[.int .u8 92, .int .u8 x] 5)) = .ok (.string ⟨#[92, b]⟩) (wr.alloc (.cells #[.int .u8 92, .int .u8 x] 5)) := conv_own und_bytes und_u8 und_str hu2
      clear hu hu2
      have hb1 : (sb ++ ⟨#[b]⟩).size ≤ 9223372036854775807 := by rw [ByteArray.size_append]; show sb.size + 1 ≤ _; omega
      have hb2 : (sb ++ ⟨#[92, b]⟩).size ≤ 9223372036854775807 := by rw [ByteArray.size_append]; show sb.size + 2 ≤ _; omega
      have hcase : x ≤ 47 ∨ (48 ≤ x ∧ x ≤ 57) ∨ (58 ≤ x ∧ x ≤ 64) ∨ (65 ≤ x ∧ x ≤ 90) ∨ (91 ≤ x ∧ x ≤ 96) ∨ (97 ≤ x ∧ x ≤ 122) ∨ 123 ≤ x := by omega
      have hnl : (k : Int) < (n : Int) := by omega
      rcases hcase with hr | ⟨hr, hr2⟩ | ⟨hr, hr2⟩ | ⟨hr, hr2⟩ | ⟨hr, hr2⟩ | ⟨hr, hr2⟩ | hr
      · have g0 : ¬ (97 : Int) ≤ (x : Int) := by omega
        have g1 : ¬ (65 : Int) ≤ (x : Int) := by omega
        have g2 : ¬ (48 : Int) ≤ (x : Int) := by omega
        have g3 : (x : Int) ≤ 122 := by omega
        have g4 : (x : Int) ≤ 90 := by omega
        have g5 : (x : Int) ≤ 57 := by omega
        have hal : alnB b.toNat = false := by
          rw [← HB.out.2]
          rw [Bool.eq_false_iff, ne_eq, alnB_iff]; omega
        have Hal := Lib.hid hal
        clear hal
        go_upto_region 11 with (fail)
        clear hconv1 hconv2 g0 g1 g2 g3 g4 g5
        by_cases hq : x = cn
        · have hq1 : ((x : Int) == (cn : Int)) = true := by simp [hq]
          have Hq := Lib.hid hq
          clear hq
          cases I
          all_goals
            go_wp2
            go_roundw
            case rel => exact ⟨k + 1, sb ++ ⟨#[92, b]⟩, true, by omega, by go_num, rfl, rfl, ClsR.next HR'.out (by simp [esc1, Hal.out]) HB.out.1 hkl (by rw [← HB.out.2, Hq.out]; simp) (by repeat (first | exact Gr.refl _ | refine Gr.alloc ?_ _ | refine Gr.drew ?_ | refine Gr.setCell ?_ (by first | (simp; done) | (simp; omega) | omega) _ | refine Gr.trans ?_ (by assumption)))⟩
            case measure => simp [intOf]; omega
        · have hq1 : ((x : Int) == (cn : Int)) = false := beq_eq_false_iff_ne.2 (by omega)
          have Hq := Lib.hid hq
          clear hq
          cases I
          · go_wp2
            go_roundw
            case rel => exact ⟨k + 1, sb ++ ⟨#[92, b]⟩, false, by omega, by go_num, rfl, rfl, ClsR.next HR'.out (by simp [esc1, Hal.out]) HB.out.1 hkl (by rw [← HB.out.2]; simp; exact fun e => Hq.out e.symm) (by repeat (first | exact Gr.refl _ | refine Gr.alloc ?_ _ | refine Gr.drew ?_ | refine Gr.setCell ?_ (by first | (simp; done) | (simp; omega) | omega) _ | refine Gr.trans ?_ (by assumption)))⟩
            case measure => simp [intOf]; omega
          · go_wp2
            go_roundw
            case rel => exact ⟨k + 1, sb ++ ⟨#[92, b]⟩, true, by omega, by go_num, rfl, rfl, ClsR.next HR'.out (by simp [esc1, Hal.out]) HB.out.1 hkl (by simp) (by repeat (first | exact Gr.refl _ | refine Gr.alloc ?_ _ | refine Gr.drew ?_ | refine Gr.setCell ?_ (by first | (simp; done) | (simp; omega) | omega) _ | refine Gr.trans ?_ (by assumption)))⟩
            case measure => simp [intOf]; omega
      · have g0 : ¬ (97 : Int) ≤ (x : Int) := by omega
        have g1 : ¬ (65 : Int) ≤ (x : Int) := by omega
        have g2 : (48 : Int) ≤ (x : Int) := by omega
        have g3 : (x : Int) ≤ 122 := by omega
        have g4 : (x : Int) ≤ 90 := by omega
        have g5 : (x : Int) ≤ 57 := by omega
        have hal : alnB b.toNat = true := by
          rw [← HB.out.2]
          rw [alnB_iff]; omega
        have Hal := Lib.hid hal
        clear hal
        go_upto_region 11 with (fail)
        clear hconv1 hconv2 g0 g1 g2 g3 g4 g5
        by_cases hq : x = cn
        · have hq1 : ((x : Int) == (cn : Int)) = true := by simp [hq]
          have Hq := Lib.hid hq
          clear hq
          cases I
          all_goals
            go_wp2
            go_roundw
            case rel => exact ⟨k + 1, sb ++ ⟨#[b]⟩, true, by omega, by go_num, rfl, rfl, ClsR.next HR'.out (by simp [esc1, Hal.out]) HB.out.1 hkl (by rw [← HB.out.2, Hq.out]; simp) (by repeat (first | exact Gr.refl _ | refine Gr.alloc ?_ _ | refine Gr.drew ?_ | refine Gr.setCell ?_ (by first | (simp; done) | (simp; omega) | omega) _ | refine Gr.trans ?_ (by assumption)))⟩
            case measure => simp [intOf]; omega
        · have hq1 : ((x : Int) == (cn : Int)) = false := beq_eq_false_iff_ne.2 (by omega)
          have Hq := Lib.hid hq
          clear hq
          cases I
          · go_wp2
            go_roundw
            case rel => exact ⟨k + 1, sb ++ ⟨#[b]⟩, false, by omega, by go_num, rfl, rfl, ClsR.next HR'.out (by simp [esc1, Hal.out]) HB.out.1 hkl (by rw [← HB.out.2]; simp; exact fun e => Hq.out e.symm) (by repeat (first | exact Gr.refl _ | refine Gr.alloc ?_ _ | refine Gr.drew ?_ | refine Gr.setCell ?_ (by first | (simp; done) | (simp; omega) | omega) _ | refine Gr.trans ?_ (by assumption)))⟩
            case measure => simp [intOf]; omega
          · go_wp2
            go_roundw
            case rel => exact ⟨k + 1, sb ++ ⟨#[b]⟩, true, by omega, by go_num, rfl, rfl, ClsR.next HR'.out (by simp [esc1, Hal.out]) HB.out.1 hkl (by simp) (by repeat (first | exact Gr.refl _ | refine Gr.alloc ?_ _ | refine Gr.drew ?_ | refine Gr.setCell ?_ (by first | (simp; done) | (simp; omega) | omega) _ | refine Gr.trans ?_ (by assumption)))⟩
            case measure => simp [intOf]; omega
      · have g0 : ¬ (97 : Int) ≤ (x : Int) := by omega
        have g1 : ¬ (65 : Int) ≤ (x : Int) := by omega
        have g2 : (48 : Int) ≤ (x : Int) := by omega
        have g3 : (x : Int) ≤ 122 := by omega
        have g4 : (x : Int) ≤ 90 := by omega
        have g5 : ¬ (x : Int) ≤ 57 := by omega
        have hal : alnB b.toNat = false := by
          rw [← HB.out.2]
          rw [Bool.eq_false_iff, ne_eq, alnB_iff]; omega
        have Hal := Lib.hid hal
        clear hal
        go_upto_region 11 with (fail)
        clear hconv1 hconv2 g0 g1 g2 g3 g4 g5
        by_cases hq : x = cn
        · have hq1 : ((x : Int) == (cn : Int)) = true := by simp [hq]
          have Hq := Lib.hid hq
          clear hq
          cases I
          all_goals
            go_wp2
            go_roundw
            case rel => exact ⟨k + 1, sb ++ ⟨#[92, b]⟩, true, by omega, by go_num, rfl, rfl, ClsR.next HR'.out (by simp [esc1, Hal.out]) HB.out.1 hkl (by rw [← HB.out.2, Hq.out]; simp) (by repeat (first | exact Gr.refl _ | refine Gr.alloc ?_ _ | refine Gr.drew ?_ | refine Gr.setCell ?_ (by first | (simp; done) | (simp; omega) | omega) _ | refine Gr.trans ?_ (by assumption)))⟩
            case measure => simp [intOf]; omega
        · have hq1 : ((x : Int) == (cn : Int)) = false := beq_eq_false_iff_ne.2 (by omega)
          have Hq := Lib.hid hq
          clear hq
          cases I
          · go_wp2
            go_roundw
            case rel => exact ⟨k + 1, sb ++ ⟨#[92, b]⟩, false, by omega, by go_num, rfl, rfl, ClsR.next HR'.out (by simp [esc1, Hal.out]) HB.out.1 hkl (by rw [← HB.out.2]; simp; exact fun e => Hq.out e.symm) (by repeat (first | exact Gr.refl _ | refine Gr.alloc ?_ _ | refine Gr.drew ?_ | refine Gr.setCell ?_ (by first | (simp; done) | (simp; omega) | omega) _ | refine Gr.trans ?_ (by assumption)))⟩
            case measure => simp [intOf]; omega
          · go_wp2
            go_roundw
            case rel => exact ⟨k + 1, sb ++ ⟨#[92, b]⟩, true, by omega, by go_num, rfl, rfl, ClsR.next HR'.out (by simp [esc1, Hal.out]) HB.out.1 hkl (by simp) (by repeat (first | exact Gr.refl _ | refine Gr.alloc ?_ _ | refine Gr.drew ?_ | refine Gr.setCell ?_ (by first | (simp; done) | (simp; omega) | omega) _ | refine Gr.trans ?_ (by assumption)))⟩
            case measure => simp [intOf]; omega
      · have g0 : ¬ (97 : Int) ≤ (x : Int) := by omega
        have g1 : (65 : Int) ≤ (x : Int) := by omega
        have g2 : (48 : Int) ≤ (x : Int) := by omega
        have g3 : (x : Int) ≤ 122 := by omega
        have g4 : (x : Int) ≤ 90 := by omega
        have g5 : ¬ (x : Int) ≤ 57 := by omega
        have hal : alnB b.toNat = true := by
          rw [← HB.out.2]
          rw [alnB_iff]; omega
        have Hal := Lib.hid hal
        clear hal
        go_upto_region 11 with (fail)
        clear hconv1 hconv2 g0 g1 g2 g3 g4 g5
        by_cases hq : x = cn
        · have hq1 : ((x : Int) == (cn : Int)) = true := by simp [hq]
          have Hq := Lib.hid hq
          clear hq
          cases I
          all_goals
            go_wp2
            go_roundw
            case rel => exact ⟨k + 1, sb ++ ⟨#[b]⟩, true, by omega, by go_num, rfl, rfl, ClsR.next HR'.out (by simp [esc1, Hal.out]) HB.out.1 hkl (by rw [← HB.out.2, Hq.out]; simp) (by repeat (first | exact Gr.refl _ | refine Gr.alloc ?_ _ | refine Gr.drew ?_ | refine Gr.setCell ?_ (by first | (simp; done) | (simp; omega) | omega) _ | refine Gr.trans ?_ (by assumption)))⟩
            case measure => simp [intOf]; omega
        · have hq1 : ((x : Int) == (cn : Int)) = false := beq_eq_false_iff_ne.2 (by omega)
          have Hq := Lib.hid hq
          clear hq
          cases I
          · go_wp2
            go_roundw
            case rel => exact ⟨k + 1, sb ++ ⟨#[b]⟩, false, by omega, by go_num, rfl, rfl, ClsR.next HR'.out (by simp [esc1, Hal.out]) HB.out.1 hkl (by rw [← HB.out.2]; simp; exact fun e => Hq.out e.symm) (by repeat (first | exact Gr.refl _ | refine Gr.alloc ?_ _ | refine Gr.drew ?_ | refine Gr.setCell ?_ (by first | (simp; done) | (simp; omega) | omega) _ | refine Gr.trans ?_ (by assumption)))⟩
            case measure => simp [intOf]; omega
          · go_wp2
            go_roundw
            case rel => exact ⟨k + 1, sb ++ ⟨#[b]⟩, true, by omega, by go_num, rfl, rfl, ClsR.next HR'.out (by simp [esc1, Hal.out]) HB.out.1 hkl (by simp) (by repeat (first | exact Gr.refl _ | refine Gr.alloc ?_ _ | refine Gr.drew ?_ | refine Gr.setCell ?_ (by first | (simp; done) | (simp; omega) | omega) _ | refine Gr.trans ?_ (by assumption)))⟩
            case measure => simp [intOf]; omega
      · have g0 : ¬ (97 : Int) ≤ (x : Int) := by omega
        have g1 : (65 : Int) ≤ (x : Int) := by omega
        have g2 : (48 : Int) ≤ (x : Int) := by omega
        have g3 : (x : Int) ≤ 122 := by omega
        have g4 : ¬ (x : Int) ≤ 90 := by omega
        have g5 : ¬ (x : Int) ≤ 57 := by omega
        have hal : alnB b.toNat = false := by
          rw [← HB.out.2]
          rw [Bool.eq_false_iff, ne_eq, alnB_iff]; omega
        have Hal := Lib.hid hal
        clear hal
        go_upto_region 11 with (fail)
        clear hconv1 hconv2 g0 g1 g2 g3 g4 g5
        by_cases hq : x = cn
        · have hq1 : ((x : Int) == (cn : Int)) = true := by simp [hq]
          have Hq := Lib.hid hq
          clear hq
          cases I
          all_goals
            go_wp2
            go_roundw
            case rel => exact ⟨k + 1, sb ++ ⟨#[92, b]⟩, true, by omega, by go_num, rfl, rfl, ClsR.next HR'.out (by simp [esc1, Hal.out]) HB.out.1 hkl (by rw [← HB.out.2, Hq.out]; simp) (by repeat (first | exact Gr.refl _ | refine Gr.alloc ?_ _ | refine Gr.drew ?_ | refine Gr.setCell ?_ (by first | (simp; done) | (simp; omega) | omega) _ | refine Gr.trans ?_ (by assumption)))⟩
            case measure => simp [intOf]; omega
        · have hq1 : ((x : Int) == (cn : Int)) = false := beq_eq_false_iff_ne.2 (by omega)
          have Hq := Lib.hid hq
          clear hq
          cases I
          · go_wp2
            go_roundw
            case rel => exact ⟨k + 1, sb ++ ⟨#[92, b]⟩, false, by omega, by go_num, rfl, rfl, ClsR.next HR'.out (by simp [esc1, Hal.out]) HB.out.1 hkl (by rw [← HB.out.2]; simp; exact fun e => Hq.out e.symm) (by repeat (first | exact Gr.refl _ | refine Gr.alloc ?_ _ | refine Gr.drew ?_ | refine Gr.setCell ?_ (by first | (simp; done) | (simp; omega) | omega) _ | refine Gr.trans ?_ (by assumption)))⟩
            case measure => simp [intOf]; omega
          · go_wp2
            go_roundw
            case rel => exact ⟨k + 1, sb ++ ⟨#[92, b]⟩, true, by omega, by go_num, rfl, rfl, ClsR.next HR'.out (by simp [esc1, Hal.out]) HB.out.1 hkl (by simp) (by repeat (first | exact Gr.refl _ | refine Gr.alloc ?_ _ | refine Gr.drew ?_ | refine Gr.setCell ?_ (by first | (simp; done) | (simp; omega) | omega) _ | refine Gr.trans ?_ (by assumption)))⟩
            case measure => simp [intOf]; omega
      · have g0 : (97 : Int) ≤ (x : Int) := by omega
        have g1 : (65 : Int) ≤ (x : Int) := by omega
        have g2 : (48 : Int) ≤ (x : Int) := by omega
        have g3 : (x : Int) ≤ 122 := by omega
        have g4 : ¬ (x : Int) ≤ 90 := by omega
        have g5 : ¬ (x : Int) ≤ 57 := by omega
        have hal : alnB b.toNat = true := by
          rw [← HB.out.2]
          rw [alnB_iff]; omega
        have Hal := Lib.hid hal
        clear hal
        go_upto_region 11 with (fail)
        clear hconv1 hconv2 g0 g1 g2 g3 g4 g5
        by_cases hq : x = cn
        · have hq1 : ((x : Int) == (cn : Int)) = true := by simp [hq]
          have Hq := Lib.hid hq
          clear hq
          cases I
          all_goals
            go_wp2
            go_roundw
            case rel => exact ⟨k + 1, sb ++ ⟨#[b]⟩, true, by omega, by go_num, rfl, rfl, ClsR.next HR'.out (by simp [esc1, Hal.out]) HB.out.1 hkl (by rw [← HB.out.2, Hq.out]; simp) (by repeat (first | exact Gr.refl _ | refine Gr.alloc ?_ _ | refine Gr.drew ?_ | refine Gr.setCell ?_ (by first | (simp; done) | (simp; omega) | omega) _ | refine Gr.trans ?_ (by assumption)))⟩
            case measure => simp [intOf]; omega
        · have hq1 : ((x : Int) == (cn : Int)) = false := beq_eq_false_iff_ne.2 (by omega)
          have Hq := Lib.hid hq
          clear hq
          cases I
          · go_wp2
            go_roundw
            case rel => exact ⟨k + 1, sb ++ ⟨#[b]⟩, false, by omega, by go_num, rfl, rfl, ClsR.next HR'.out (by simp [esc1, Hal.out]) HB.out.1 hkl (by rw [← HB.out.2]; simp; exact fun e => Hq.out e.symm) (by repeat (first | exact Gr.refl _ | refine Gr.alloc ?_ _ | refine Gr.drew ?_ | refine Gr.setCell ?_ (by first | (simp; done) | (simp; omega) | omega) _ | refine Gr.trans ?_ (by assumption)))⟩
            case measure => simp [intOf]; omega
          · go_wp2
            go_roundw
            case rel => exact ⟨k + 1, sb ++ ⟨#[b]⟩, true, by omega, by go_num, rfl, rfl, ClsR.next HR'.out (by simp [esc1, Hal.out]) HB.out.1 hkl (by simp) (by repeat (first | exact Gr.refl _ | refine Gr.alloc ?_ _ | refine Gr.drew ?_ | refine Gr.setCell ?_ (by first | (simp; done) | (simp; omega) | omega) _ | refine Gr.trans ?_ (by assumption)))⟩
            case measure => simp [intOf]; omega
      · have g0 : (97 : Int) ≤ (x : Int) := by omega
        have g1 : (65 : Int) ≤ (x : Int) := by omega
        have g2 : (48 : Int) ≤ (x : Int) := by omega
        have g3 : ¬ (x : Int) ≤ 122 := by omega
        have g4 : ¬ (x : Int) ≤ 90 := by omega
        have g5 : ¬ (x : Int) ≤ 57 := by omega
        have hal : alnB b.toNat = false := by
          rw [← HB.out.2]
          rw [Bool.eq_false_iff, ne_eq, alnB_iff]; omega
        have Hal := Lib.hid hal
        clear hal
        go_upto_region 11 with (fail)
        clear hconv1 hconv2 g0 g1 g2 g3 g4 g5
        by_cases hq : x = cn
        · have hq1 : ((x : Int) == (cn : Int)) = true := by simp [hq]
          have Hq := Lib.hid hq
          clear hq
          cases I
          all_goals
            go_wp2
            go_roundw
            case rel => exact ⟨k + 1, sb ++ ⟨#[92, b]⟩, true, by omega, by go_num, rfl, rfl, ClsR.next HR'.out (by simp [esc1, Hal.out]) HB.out.1 hkl (by rw [← HB.out.2, Hq.out]; simp) (by repeat (first | exact Gr.refl _ | refine Gr.alloc ?_ _ | refine Gr.drew ?_ | refine Gr.setCell ?_ (by first | (simp; done) | (simp; omega) | omega) _ | refine Gr.trans ?_ (by assumption)))⟩
            case measure => simp [intOf]; omega
        · have hq1 : ((x : Int) == (cn : Int)) = false := beq_eq_false_iff_ne.2 (by omega)
          have Hq := Lib.hid hq
          clear hq
          cases I
          · go_wp2
            go_roundw
            case rel => exact ⟨k + 1, sb ++ ⟨#[92, b]⟩, false, by omega, by go_num, rfl, rfl, ClsR.next HR'.out (by simp [esc1, Hal.out]) HB.out.1 hkl (by rw [← HB.out.2]; simp; exact fun e => Hq.out e.symm) (by repeat (first | exact Gr.refl _ | refine Gr.alloc ?_ _ | refine Gr.drew ?_ | refine Gr.setCell ?_ (by first | (simp; done) | (simp; omega) | omega) _ | refine Gr.trans ?_ (by assumption)))⟩
            case measure => simp [intOf]; omega
          · go_wp2
            go_roundw
            case rel => exact ⟨k + 1, sb ++ ⟨#[92, b]⟩, true, by omega, by go_num, rfl, rfl, ClsR.next HR'.out (by simp [esc1, Hal.out]) HB.out.1 hkl (by simp) (by repeat (first | exact Gr.refl _ | refine Gr.alloc ?_ _ | refine Gr.drew ?_ | refine Gr.setCell ?_ (by first | (simp; done) | (simp; omega) | omega) _ | refine Gr.trans ?_ (by assumption)))⟩
            case measure => simp [intOf]; omega
    · have hkn : k = n := by omega
      have hgr := HR.2.2
      have hsz : sb.size ≤ 40 := by
        have e := congrArg List.length HR.1
        have := (escL_len (l.take k)).2
        have h3 : (l.take k).length ≤ 20 := by rw [List.length_take]; have := Hn.out; omega
        simp at e
        omega
      have hb1 : (⟨#[91]⟩ ++ sb).size ≤ 9223372036854775807 := by rw [ByteArray.size_append]; show 1 + sb.size ≤ _; omega
      have hb2 : (⟨#[91]⟩ ++ sb ++ ⟨#[93]⟩).size ≤ 9223372036854775807 := by rw [ByteArray.size_append, ByteArray.size_append]; show 1 + sb.size + 1 ≤ _; omega
      have hb3 : (⟨#[91, 94]⟩ ++ sb).size ≤ 9223372036854775807 := by rw [ByteArray.size_append]; show 2 + sb.size ≤ _; omega
      have hb4 : (⟨#[91, 94]⟩ ++ sb ++ ⟨#[93]⟩).size ≤ 9223372036854775807 := by rw [ByteArray.size_append, ByteArray.size_append]; show 2 + sb.size + 1 ≤ _; omega
      have hne : l ≠ [] := by intro e; have := Hn.out; rw [e] at this; simp at this; omega
      have hlk : l.take k = l := by rw [hkn, Hn.out]; exact List.take_length
      obtain ⟨f1, hf1, hv1⟩ := class_in hne
      obtain ⟨f2, hf2, hv2⟩ := class_out hne
      have hI1 : f1 cn = I := by rw [hv1, HR.2.1, hlk]
      have hI2 : f2 cn = !I := by rw [hv2, HR.2.1, hlk]
      have HC1 := class_comp (⟨#[91]⟩ ++ sb ++ ⟨#[93]⟩) (by rw [ByteArray.size_append, ByteArray.size_append]; show 1 + sb.size + 1 ≤ _; omega) (by simp [ByteArray.data_append, HR.1, hlk] : _ = 91 :: (escL l ++ [93])) hf1
      have HC2 := class_comp (⟨#[91, 94]⟩ ++ sb ++ ⟨#[93]⟩) (by rw [ByteArray.size_append, ByteArray.size_append]; show 2 + sb.size + 1 ≤ _; omega) (by simp [ByteArray.data_append, HR.1, hlk] : _ = 91 :: (94 :: (escL l ++ [93]))) hf2
      have HH1 := has_cls f1 cn hcn I hI1
      have HH2 := has_cls f2 cn hcn (!I) hI2
      obtain ⟨P1, hP1⟩ : ∃ P : ByteArray, P = ⟨(pairsS f1).toArray⟩ := ⟨_, rfl⟩
      obtain ⟨P2, hP2⟩ : ∃ P : ByteArray, P = ⟨(pairsS f2).toArray⟩ := ⟨_, rfl⟩
      rw [← hP1] at HC1 HH1
      rw [← hP2] at HC2 HH2
      have HA := Lib.hid (And.intro HC1 (And.intro HC2 (And.intro HH1 HH2)))
      have hge : ¬ (k : Int) < (n : Int) := by omega
      clear HC1 HC2 HH1 HH2 hP1 hP2 hI1 hI2 hv1 hv2 hf1 hf2 hne hlk HR hkn
      go_upto_region 13 with (go_at_call 7; refine (HA.out.1 _).mono ?_; rintro e w1 ⟨g1, c1, rfl, hg1, hgl1, hgz1, hcell1⟩)
      go_upto_region 14 with (go_at_call 7; refine (HA.out.2.1 _).mono ?_; rintro e w3 ⟨g2, c2, rfl, hg3, hgl2, hgz2, hcell2⟩)
      have hq1 : w3.cell? ⟨g1, 7, none⟩ = some (.string P1) := (hg3.cell (p := ⟨g1, 7, none⟩) (by simp; omega)).trans ((cell_alloc_old _ _ ⟨g1, 7, none⟩ hgz1).trans hcell1)
      have hq2 : w3.cell? ⟨w1.heap.size, 1, none⟩ = some (.slice (some ⟨g1, 0, none⟩) 4 c1) := (hg3.cell (p := ⟨w1.heap.size, 1, none⟩) (by simp)).trans (by go_simp)
      have hz31 : w1.heap.size < w3.heap.size := by have := hg3.size; simp at this; omega
      have hg13 : g1 < w3.heap.size := by omega
      have Hg := Lib.hid (And.intro hgr (And.intro hg1 hg3))
      clear hcell1 hgr hg1 hg3 hb1 hb2 hb3 hb4
      go_wp2_with (first | (go_at_call 10; ((with_reducible refine (HA.out.2.2.1 _).mono ?_); rintro e w4 ⟨rfl, rfl⟩)) | (go_at_call 10; ((with_reducible refine (HA.out.2.2.2 _).mono ?_); rintro e w4 ⟨rfl, rfl⟩)) | (go_at_call 9; refine (known_any _).mono ?_; rintro e w2 ⟨rfl, hg2⟩))
      go_ret
      obtain ⟨k0, k1, k2⟩ := Hg.out
      exact ⟨rfl, (((k0.trans k1).trans (Gr.alloc (Gr.refl _) _)).trans k2).trans ((Gr.alloc (Gr.refl _) _).trans hg2)⟩
theorem law_RexClasses (A : Option Addr) (ca : Nat) (l : List UInt8) (c : Int) (h0 : 0 ≤ c) (h1 : c < 256) (w : World) (hl : (l.length : Int) ≤ 9223372036854775807) (hr : Rd w 1 A l.length (bcells l)) :
    Calls Try.prog 6 #[.slice A l.length ca, .int .u8 c] w fun e w' => e = .returned (.bool true) ∧ Gr w w' := by
  by_cases hs : 0 < l.length ∧ l.length ≤ 20
  · obtain ⟨cn, rfl⟩ : ∃ cn : Nat, c = cn := ⟨c.toNat, by omega⟩
    exact classes_go A ca l cn (by omega) w hs.1 hs.2 hr
  · obtain ⟨n, hn⟩ : ∃ n, n = l.length := ⟨_, rfl⟩
    rw [← hn] at hs hl ⊢
    clear hn hr
    by_cases h2 : (n : Int) < 1
    · go_enter Try.func6, Try.ntmps6
      go_wp2
      go_ret
      exact ⟨rfl, Gr.refl _⟩
    · have h3 : (20 : Int) < (n : Int) := by omega
      go_enter Try.func6, Try.ntmps6
      go_wp2
      go_ret
      exact ⟨rfl, Gr.refl _⟩
end Go.Proofs.Ytpcmdijgepbilaa
