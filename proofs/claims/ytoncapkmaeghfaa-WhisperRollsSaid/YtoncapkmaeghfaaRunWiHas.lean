/- The value that an archive's slot has of a time: (*whisper.file).has. · Which archive reaches a time: (*whisper.file).reaches, first. · How a point is written: slot.Writes. · A region that draws its order, whose operations ahead of number n yield one value each in every world of the class 'all that was there is as it was', and whose operations from n on stand in one forced order: the head walked once, in the order of the text; then the tail. No program in sight. -/
import Derived.Test.YtoncapkmaeghfaaRunWhDecH
import Derived.Test.YtoncapkmaeghfaaRunWhSpan
import Derived.Test.YtoncapkmaeghfaaRunWhSpec
import Derived.StillTail
namespace Go.Proofs.Ytoncapkmaeghfaa
set_option linter.unusedVariables false
set_option linter.unusedSimpArgs false
open Go.RowKit

theorem align_facts {t step : Int} (h : 1 ≤ step) (h' : 0 ≤ t) : 0 ≤ alignS t step ∧ alignS t step ≤ t := by
 rw [alignS_of h h']
 have := emod_le' h' h
 have := Int.emod_nonneg t (b := step) (by omega)
 omega
/-- a value handed back. -/
def RetVl (v : Vl) (w : World) (e : Ending) (w' : World) : Prop := e = .returned (.agg #[.bool v.ok, .int .i64 v.n]) ∧ Gr w w'
set_option maxRecDepth 100000 in
set_option maxHeartbeats 6400000 in
theorem whas_any {X F P M : Nat} {R : Option Nat} {room : Int} {n ag xf b c : Nat} {m : Arcs} {g d : Nat} {D : List UInt8} (i : Nat) (hi : i < m.length) (t : Int) (h0 : 0 ≤ t) (ht : t ≤ 4611686018427387904) (w : World) (h : FiM w X F P M R room n ag xf b c m g d D) : Calls Try.prog 29 #[.pointer (some ⟨X, 0, none⟩), .int .i64 i, .int .i64 t] w (RetVl (hasV m D i t) w) := by
 obtain ⟨V, hV⟩ : ∃ V, V = w.alloc (.cells #[.bool false, .int .i64 0] 47) := ⟨_, rfl⟩
 have gV : Gr w V := by rw [hV]; exact Gr.alloc (Gr.refl w) _
 have hz : w.heap.size < V.heap.size := by rw [hV]; simp
 have b0 : V.cell? ⟨w.heap.size, 0, none⟩ = some (.bool false) := by rw [hV]; go_simp
 have b1 : V.cell? ⟨w.heap.size, 1, none⟩ = some (.int .i64 0) := by rw [hV]; go_simp
 have f0 : V.frozen? ⟨w.heap.size, 0, none⟩ = false := by rw [hV]; go_simp
 have f1 : V.frozen? ⟨w.heap.size, 1, none⟩ = false := by rw [hV]; go_simp
 have hF := MayF.ofH h.may
 have hst := hF.s1 i hi
 obtain ⟨T, hT⟩ : ∃ T, T = alignS t (stpS m i) := ⟨_, rfl⟩
 have hTf := align_facts (t := t) (step := (stpS m i : Int)) (by omega) h0
 have hal := fun W => align_any t (stpS m i) (by omega) W
 rw [← hT] at hTf hal
 have hVal : hasV m D i t = if T < 1 then ⟨false, 0⟩ else seenS m D i T := by unfold hasV; rw [← hT]
 rw [hVal]
 have hFi := h.gr gV
 have x2 := hFi.x2
 have x5 := hFi.x5
 have lX := hFi.lX
 obtain ⟨a0, a1⟩ := hFi.arc hi
 have hmi : (i : Int) < (m.length : Int) := by omega
 have hm8 : (m.length : Int) ≤ 8 := by have := hF.l8; omega
 have HV := Lib.hid hV
 have HAL := Lib.hid hal
 by_cases hT1 : T < 1
 ·
  rw [if_pos hT1]
  have GV := Lib.hid gV
  have HV0 := Lib.hid (rfl : (0 : Nat) = 0)
  clear hV gV h hF hal hVal hT hTf hst hi h0 ht hFi
  go_enter Try.func29, Try.ntmps29
  go_upto_region 1 with (fail)
  rw [← HV.out]
  clear HV
  go_wp2_with (go_at_call 28; refine (HAL.out _).mono ?_; rintro e w1 ⟨rfl, rfl⟩)
  exact bodyPost_ret (v := .agg #[.bool false, .int .i64 0]) (by simp [results, Try.results29, go_sem, *]) rfl ⟨rfl, ((GV.out.setCell (p := ⟨w.heap.size, 0, none⟩) (Nat.le_refl _) _).setCell (p := ⟨w.heap.size, 1, none⟩) (Nat.le_refl _) _)⟩
 ·
  rw [if_neg hT1]
  have hpl := fun W (gW : Gr V W) => wplace_any i hi T (by omega) W (hFi.gr gW)
  obtain ⟨k, hk⟩ : ∃ k, k = atS m i T := ⟨_, rfl⟩
  rw [← hk] at hpl
  have hkin : k + 12 ≤ D.length := by rw [hk, h.len]; exact (atS_in hF hi T).2
  have hsl := (h.slot hkin).1
  have hde := fun W c' (gW : Gr V W) => decode_any (some ⟨g, k, none⟩) c' (slotS D k) hsl W ((hFi.gr gW).slot hkin).2
  rw [hsl] at hde
  obtain ⟨S, hS⟩ : ∃ S, S = decT (slotS D k) := ⟨_, rfl⟩
  obtain ⟨N, hN⟩ : ∃ N, N = decN (slotS D k) := ⟨_, rfl⟩
  have hsv : seenS m D i T = if S = T then ofV N else ⟨false, 0⟩ := by unfold seenS; rw [← hk, ← hS, ← hN]
  rw [hsv]
  rw [← hS, ← hN] at hde
  have hcap := own_capA h.row
  have hlen : (D.length : Int) ≤ 1048576 := by have := h.len; have := hF.sz; omega
  have hki : (k : Int) + 12 ≤ (D.length : Int) := by omega
  have hkd : (k : Int) + 12 ≤ (d : Int) := by omega
  have hw1 : IntKind.i64.wrap ((k : Int) + 12) = (k : Int) + 12 := IntWalk.i64_in _ (by omega)
  have hw2 : ((k : Int) + 12 - (k : Int)).toNat = 12 := by omega
  have GV := Lib.hid gV
  have HPL := Lib.hid hpl
  have HDE := Lib.hid hde
  have hT1' : ¬ T < 1 := hT1
  clear hV gV h hF hal hVal hT hTf hst hi h0 ht hFi hpl hk hkin hsl hde hS hN hsv hlen
  by_cases hST : S = T
  ·
   rw [if_pos hST]
   subst hST
   obtain ⟨vo, vn, hv⟩ : ∃ vo vn, ofV N = ⟨vo, vn⟩ := ⟨_, _, rfl⟩
   have HO := Lib.hid (fun W => of_any N W)
   rw [hv] at HO ⊢
   clear hv
   go_enter Try.func29, Try.ntmps29
   go_upto_region 1 with (fail)
   rw [← HV.out]
   clear HV
   go_wp2_with (first | (go_at_call 28; refine (HAL.out _).mono ?_; rintro e w1 ⟨rfl, rfl⟩) | (go_at_call 49; refine (HPL.out _ (Gr.refl _)).mono ?_; rintro e w2 ⟨rfl, g2⟩; have c0 := (Below.cell g2 (p := ⟨w.heap.size, 0, none⟩) hz).trans b0; have c1 := (Below.cell g2 (p := ⟨w.heap.size, 1, none⟩) hz).trans b1; have k0 := (Below.frozen g2 (p := ⟨w.heap.size, 0, none⟩) hz).trans f0; have k1 := (Below.frozen g2 (p := ⟨w.heap.size, 1, none⟩) hz).trans f1; have s5 := (Below.cell g2 (p := ⟨X, 5, none⟩) lX).trans x5; have HG2 := Lib.hid g2; have hz2 := Nat.lt_of_lt_of_le hz g2.size; clear g2) | (go_at_call 31; refine (HDE.out _ _ HG2.out).mono ?_; rintro e w3 ⟨rfl, g3⟩; have e0 := (Below.cell g3 (p := ⟨w.heap.size, 0, none⟩) hz2).trans c0; have e1 := (Below.cell g3 (p := ⟨w.heap.size, 1, none⟩) hz2).trans c1; have l0 := (Below.frozen g3 (p := ⟨w.heap.size, 0, none⟩) hz2).trans k0; have l1 := (Below.frozen g3 (p := ⟨w.heap.size, 1, none⟩) hz2).trans k1; have HG3 := Lib.hid (HG2.out.trans g3); have hz3 := Nat.lt_of_lt_of_le hz2 g3.size; clear g3) | (go_at_call 45; refine (HO.out _).mono ?_; rintro e w4 ⟨rfl, g4⟩; have p0 : w4.cell? ⟨w.heap.size, 0, none⟩ = some (.bool false) := (Below.cell g4 (p := ⟨w.heap.size, 0, none⟩) (by simp; omega)).trans (by go_simp); have p1 : w4.cell? ⟨w.heap.size, 1, none⟩ = some (.int .i64 0) := (Below.cell g4 (p := ⟨w.heap.size, 1, none⟩) (by simp; omega)).trans (by go_simp); have r0 : w4.frozen? ⟨w.heap.size, 0, none⟩ = false := (Below.frozen g4 (p := ⟨w.heap.size, 0, none⟩) (by simp; omega)).trans (by go_simp); have r1 : w4.frozen? ⟨w.heap.size, 1, none⟩ = false := (Below.frozen g4 (p := ⟨w.heap.size, 1, none⟩) (by simp; omega)).trans (by go_simp); have HG4 := Lib.hid ((HG3.out.alloc (.cells #[.int .i64 S, .int .i64 N] 26)).trans g4); clear g4))
   exact bodyPost_ret (v := .agg #[.bool vo, .int .i64 vn]) (by simp [results, Try.results29, go_sem, *]) rfl ⟨rfl, ((GV.out.trans HG4.out).setCell (p := ⟨w.heap.size, 0, none⟩) (Nat.le_refl _) _).setCell (p := ⟨w.heap.size, 1, none⟩) (Nat.le_refl _) _⟩
  ·
   rw [if_neg hST]
   go_enter Try.func29, Try.ntmps29
   go_upto_region 1 with (fail)
   rw [← HV.out]
   clear HV
   go_wp2_with (first | (go_at_call 28; refine (HAL.out _).mono ?_; rintro e w1 ⟨rfl, rfl⟩) | (go_at_call 49; refine (HPL.out _ (Gr.refl _)).mono ?_; rintro e w2 ⟨rfl, g2⟩; have c0 := (Below.cell g2 (p := ⟨w.heap.size, 0, none⟩) hz).trans b0; have c1 := (Below.cell g2 (p := ⟨w.heap.size, 1, none⟩) hz).trans b1; have k0 := (Below.frozen g2 (p := ⟨w.heap.size, 0, none⟩) hz).trans f0; have k1 := (Below.frozen g2 (p := ⟨w.heap.size, 1, none⟩) hz).trans f1; have s5 := (Below.cell g2 (p := ⟨X, 5, none⟩) lX).trans x5; have HG2 := Lib.hid g2; have hz2 := Nat.lt_of_lt_of_le hz g2.size; clear g2) | (go_at_call 31; refine (HDE.out _ _ HG2.out).mono ?_; rintro e w3 ⟨rfl, g3⟩; have e0 := (Below.cell g3 (p := ⟨w.heap.size, 0, none⟩) hz2).trans c0; have e1 := (Below.cell g3 (p := ⟨w.heap.size, 1, none⟩) hz2).trans c1; have l0 := (Below.frozen g3 (p := ⟨w.heap.size, 0, none⟩) hz2).trans k0; have l1 := (Below.frozen g3 (p := ⟨w.heap.size, 1, none⟩) hz2).trans k1; have HG3 := Lib.hid (HG2.out.trans g3); have hz3 := Nat.lt_of_lt_of_le hz2 g3.size; clear g3))
   exact bodyPost_ret (v := .agg #[.bool false, .int .i64 0]) (by simp [results, Try.results29, go_sem, *]) rfl ⟨rfl, (((GV.out.trans HG3.out).setCell (p := ⟨w.heap.size, 0, none⟩) (Nat.le_refl _) _).setCell (p := ⟨w.heap.size, 1, none⟩) (Nat.le_refl _) _).alloc _⟩
end Go.Proofs.Ytoncapkmaeghfaa
namespace Go.Proofs.Ytoncapkmaeghfaa
set_option linter.unusedVariables false
set_option linter.unusedSimpArgs false
open Go.RowKit

theorem arc_at {m : Arcs} {i : Nat} (h : i < m.length) : m[i] = (stpS m i, cntS m i) := by rw [stpS_at h, cntS_at h]
set_option maxRecDepth 100000 in
set_option maxHeartbeats 6400000 in
theorem wreaches_any {X F P M : Nat} {R : Option Nat} {room : Int} {n ag xf b c : Nat} {m : Arcs} {g d : Nat} {D : List UInt8} (i : Nat) (hi : i < m.length) (t now : Int) (h0 : 0 ≤ t) (hn : t ≤ now) (hn4 : now ≤ 4294967295) (w : World) (h : FiM w X F P M R room n ag xf b c m g d D) : Calls Try.prog 59 #[.pointer (some ⟨X, 0, none⟩), .int .i64 i, .int .i64 t, .int .i64 now] w fun e w' => e = .returned (.bool (reachB m[i] t now)) ∧ Gr w w' := by
 have hF := MayF.ofH h.may
 have hst := hF.s1 i hi
 have hct := hF.c1 i hi
 obtain ⟨a0, a1⟩ := h.arc hi
 rw [arc_at hi]
 have x2 := h.x2
 have hmi : (i : Int) < (m.length : Int) := by omega
 have hm8 : (m.length : Int) ≤ 8 := by have := hF.l8; omega
 generalize stpS m i = S at *
 generalize cntS m i = C at *
 have hv : reachB (S, C) t now = decide (now - t < (S : Int) * C) := by unfold reachB; rw [decide_eq_true hn, Bool.true_and]
 rw [hv]
 have hp := prod_small S C (by omega) (by omega) (by omega) (by omega)
 have hs : IntKind.i64.wrap (now - t) = now - t := IntWalk.i64_in _ (by omega)
 obtain ⟨V, hV⟩ : ∃ V, V = w.alloc (.cells #[.int .i64 S, .int .i64 C] 30) := ⟨_, rfl⟩
 have gV : Gr w V := by rw [hV]; exact Gr.alloc (Gr.refl w) _
 have b0 : V.cell? ⟨w.heap.size, 0, none⟩ = some (.int .i64 S) := by rw [hV]; go_simp
 have b1 : V.cell? ⟨w.heap.size, 1, none⟩ = some (.int .i64 C) := by rw [hV]; go_simp
 have HV := Lib.hid hV
 have GV := Lib.hid gV
 clear hV gV h hF hst hct hi hv
 by_cases hlt : now - t < (S : Int) * C
 ·
  rw [decide_eq_true hlt]
  go_enter Try.func59, Try.ntmps59
  go_upto_region 2 with (fail)
  rw [← HV.out]
  clear HV
  go_wp2
  go_ret
  exact ⟨rfl, GV.out⟩
 ·
  rw [decide_eq_false hlt]
  go_enter Try.func59, Try.ntmps59
  go_upto_region 2 with (fail)
  rw [← HV.out]
  clear HV
  go_wp2
  go_ret
  exact ⟨rfl, GV.out⟩
theorem first_at {m : Arcs} {t now : Int} {k : Nat} (hk : k < m.length) (h : reachB m[k] t now = true) (hb : ∀ j (hj : j < m.length), j < k → reachB m[j] t now = false) : firstS m t now = k := by
 unfold firstS
 exact (List.findIdx_eq hk).2 ⟨h, fun j hj => hb j (by omega) hj⟩
theorem first_none {m : Arcs} {t now : Int} (hb : ∀ j (hj : j < m.length), reachB m[j] t now = false) : firstS m t now = m.length := by
 unfold firstS
 refine List.findIdx_eq_length.2 fun x hx => ?_
 obtain ⟨j, hj, e⟩ := List.mem_iff_getElem.1 hx
 rw [← e]
 exact hb j hj
set_option maxRecDepth 100000 in
set_option maxHeartbeats 6400000 in
theorem wfirst_any {X F P M : Nat} {R : Option Nat} {room : Int} {n ag xf b c : Nat} {m : Arcs} {g d : Nat} {D : List UInt8} (t now : Int) (h0 : 0 ≤ t) (hn : t ≤ now) (hn4 : now ≤ 4294967295) (w : World) (h : FiM w X F P M R room n ag xf b c m g d D) : Calls Try.prog 46 #[.pointer (some ⟨X, 0, none⟩), .int .i64 t, .int .i64 now] w fun e w' => e = .returned (.int .i64 (firstS m t now : Nat)) ∧ Gr w w' := by
 have hF := MayF.ofH h.may
 have x2 := h.x2
 have lX := h.lX
 have hm8 : (m.length : Int) ≤ 8 := by have := hF.l8; omega
 have HR := Lib.hid (fun (i : Nat) (hi : i < m.length) (W : World) (gW : Gr w W) => wreaches_any i hi t now h0 hn hn4 W (h.gr gW))
 clear h hF hn hn4 h0
 go_enter Try.func46, Try.ntmps46
 go_wp2
 go_loopw [14] (fun j wr => ∃ k : Nat, k ≤ m.length ∧ j = .int .i64 k ∧ Gr w wr ∧ Hid (∀ j (hj : j < m.length), j < k → reachB m[j] t now = false)) (fun j _ => m.length - (intOf j).toNat)
 case atStart => exact ⟨0, Nat.zero_le _, rfl, Gr.refl _, Lib.hid fun _ _ h => absurd h (Nat.not_lt_zero _)⟩
 case round =>
  obtain ⟨k, hk, rfl, hgr, HB⟩ := hrel
  have y2 := (Below.cell hgr (p := ⟨X, 2, none⟩) lX).trans x2
  by_cases hlt : k < m.length
  ·
   have hlti : (k : Int) < (m.length : Int) := by omega
   have HG := Lib.hid hgr
   have HK := Lib.hid hlt
   have HS := Lib.hid (fun hb : reachB (m[k]'HK.out) t now = true => first_at HK.out hb HB.out)
   have HN := Lib.hid (fun hb : reachB (m[k]'HK.out) t now = false => (fun (j : Nat) (hj : j < m.length) (hjk : j < k + 1) => (by
    rcases Nat.lt_or_ge j k with e | e
    ·
     exact HB.out j hj e
    ·
     obtain rfl : j = k := by omega
     exact hb) : ∀ j (hj : j < m.length), j < k + 1 → reachB m[j] t now = false))
   obtain ⟨r, hr⟩ : ∃ r, r = reachB (m[k]'HK.out) t now := ⟨_, rfl⟩
   have HC : Hid (∀ W, Gr w W → Calls Try.prog 59 #[.pointer (some ⟨X, 0, none⟩), .int .i64 k, .int .i64 t, .int .i64 now] W fun e w' => e = .returned (.bool r) ∧ Gr W w') := Lib.hid (fun W gW => by rw [hr]; exact HR.out k HK.out W gW)
   rw [← hr] at HS HN
   clear hgr hlt hr
   cases r with
   | true =>
    have HS2 : Hid (firstS m t now = k) := Lib.hid (HS.out rfl)
    clear HN HS
    go_wp2_with (go_at_call 59; refine (HC.out _ HG.out).mono ?_; rintro e w1 ⟨rfl, g1⟩; have HG1 := Lib.hid (HG.out.trans g1); clear g1)
    go_ret
    exact ⟨ret_i (by rw [HS2.out]), HG1.out⟩
   | false =>
    have HN2 : Hid (∀ j (hj : j < m.length), j < k + 1 → reachB m[j] t now = false) := Lib.hid (HN.out rfl)
    clear HS HN
    go_wp2_with (go_at_call 59; refine (HC.out _ HG.out).mono ?_; rintro e w1 ⟨rfl, g1⟩; have HG1 := Lib.hid (HG.out.trans g1); clear g1)
    go_roundw
    case rel => exact ⟨k + 1, by omega, by go_num, HG1.out, HN2⟩
    case measure => simp [intOf]; omega
  ·
   have hkk : k = m.length := by omega
   subst hkk
   have HN := Lib.hid (first_none (t := t) (now := now) (fun j hj => HB.out j hj hj))
   go_wp2
   go_ret
   exact ⟨ret_i (by rw [HN.out]), hgr⟩
end Go.Proofs.Ytoncapkmaeghfaa
namespace Go.Proofs.Ytoncapkmaeghfaa
set_option linter.unusedVariables false
set_option linter.unusedSimpArgs false
open Go.RowKit

/-- bytes in a block of their own. -/
def Rbf (B0 : Nat) (w : World) (A : Option Addr) (l : List UInt8) : Prop := Rb w A l ∧ ∀ ad, A = some ad → B0 ≤ ad.block
theorem Rbf.gr {B0 : Nat} {w w' : World} {A : Option Addr} {l : List UInt8} (h : Rbf B0 w A l) (g : Gr w w') : Rbf B0 w' A l := ⟨h.1.gr g, h.2⟩
/-- three writes are handed back: noughts, the number, the time. -/
def RetWr (t n : Int) (w : World) (e : Ending) (w' : World) : Prop :=
 ∃ (B : Nat) (A0 A1 A2 : Option Addr) (c1 c2 : Nat), e = .returned (.slice (some ⟨B, 0, none⟩) 3 3) ∧ ((w'.cell? ⟨B, 0, none⟩ = some (.slice A0 4 4) ∧ w'.cell? ⟨B, 1, none⟩ = some (.slice A1 8 c1) ∧ w'.cell? ⟨B, 2, none⟩ = some (.slice A2 4 c2) ∧ B < w'.heap.size) ∧ w.heap.size ≤ B) ∧
  Rbf w.heap.size w' A0 [0, 0, 0, 0] ∧ Rbf w.heap.size w' A1 (beB (u64 n) 8) ∧ Rbf w.heap.size w' A2 (beB (at4 t) 4) ∧ Gr w w'
theorem RetWr.of {t n : Int} {w w' : World} {bs : List UInt8} {B V : Nat} {A0 A1 A2 : Option Addr} {c1 c2 : Nat} (hV : w.heap.size ≤ V) (h : bs.take 4 = beB (at4 t) 4 ∧ bs.drop 4 = beB (u64 n) 8) (hc : (w'.cell? ⟨B, 0, none⟩ = some (.slice A0 4 4) ∧ w'.cell? ⟨B, 1, none⟩ = some (.slice A1 8 c1) ∧ w'.cell? ⟨B, 2, none⟩ = some (.slice A2 4 c2) ∧ B < w'.heap.size) ∧ V ≤ B)
  (h0 : Rbf V w' A0 [0, 0, 0, 0]) (h1 : Rbf V w' A1 (bs.drop 4)) (h2 : Rbf V w' A2 (bs.take 4)) (g : Gr w w') : RetWr t n w (.returned (.slice (some ⟨B, 0, none⟩) 3 3)) w' := by
 rw [h.1] at h2
 rw [h.2] at h1
 exact ⟨B, A0, A1, A2, c1, c2, rfl, ⟨hc.1, Nat.le_trans hV hc.2⟩, ⟨h0.1, fun ad e => Nat.le_trans hV (h0.2 ad e)⟩, ⟨h1.1, fun ad e => Nat.le_trans hV (h1.2 ad e)⟩, ⟨h2.1, fun ad e => Nat.le_trans hV (h2.2 ad e)⟩, g⟩
theorem three_new {w W : World} {x y z : Value} {T : TypeId} (h : W = w.alloc (.cells #[x, y, z] T)) : W.cell? ⟨w.heap.size, 0, none⟩ = some x ∧ W.cell? ⟨w.heap.size, 1, none⟩ = some y ∧ W.cell? ⟨w.heap.size, 2, none⟩ = some z ∧ w.heap.size < W.heap.size := by
 subst h
 refine ⟨?_, ?_, ?_, by simp⟩ <;> go_simp
theorem Rb.drop4 {w : World} {ad : Addr} {l : List UInt8} (hl : l.length = 12) (h : Rb w (some ad) l) : Rd w 1 (some (ad.add 4)) 8 (bys (l.drop 4)) := by
 refine ⟨by rw [bys_length, List.length_drop]; omega, fun _ => ⟨ad.add 4, rfl, ?_, fun j u hu => ?_⟩⟩
 ·
  obtain ⟨ad', e, hb, -⟩ := h.2 (by omega)
  injection e with e
  subst e
  rw [add_blk]; exact hb
 ·
  obtain ⟨ad', e, -, hc⟩ := h.2 (by omega)
  injection e with e
  subst e
  rw [add_two]
  refine hc _ _ ?_
  unfold bys at hu ⊢
  rw [← hu]
  simp [List.getElem?_drop]
theorem Rb.take4 {w : World} {ad : Addr} {l : List UInt8} (hl : l.length = 12) (h : Rb w (some ad) l) : Rd w 1 (some ad) 4 (bys (l.take 4)) := by
 refine ⟨by rw [bys_length, List.length_take]; omega, fun _ => ?_⟩
 obtain ⟨ad', e, hb, hc⟩ := h.2 (by omega)
 injection e with e
 subst e
 refine ⟨ad, rfl, hb, fun j u hu => hc _ _ ?_⟩
 unfold bys at hu ⊢
 rw [List.getElem?_map, List.getElem?_take] at hu
 split at hu
 ·
  rw [List.getElem?_map]; exact hu
 ·
  cases hu
set_option maxRecDepth 100000 in
set_option maxHeartbeats 6400000 in
theorem writes_any (t n : Int) (w : World) : Calls Try.prog 60 #[.agg #[.int .i64 t, .int .i64 n]] w (RetWr t n w) := by
 obtain ⟨i0, hi0, hz0, hz1, hz2⟩ := info_parts info_u8
 have HE := Lib.hid (fun W => encode_any t n W)
 obtain ⟨bs, hbs⟩ : ∃ bs, bs = encP t n := ⟨_, rfl⟩
 have hl : bs.length = 12 := by rw [hbs]; exact encP_len t n
 rw [← hbs] at HE
 have HD : Hid (bs.take 4 = beB (at4 t) 4 ∧ bs.drop 4 = beB (u64 n) 8) := Lib.hid (by
  rw [hbs]
  unfold encP
  exact ⟨List.take_left' (beB_len _ _), List.drop_left' (beB_len _ _)⟩)
 obtain ⟨arr, harr, hms⟩ : ∃ arr : Array Value, (∀ W : World, Rb (W.alloc (.cells arr 5)) (some ⟨W.heap.size, 0, none⟩) [0, 0, 0, 0]) ∧ ∀ W, (Instr.makeSlice 66 (.int .i64 4) (.int .i64 4)).run Try.prog W = .ok (.slice (some ⟨W.heap.size, 0, none⟩) 4 4) (W.alloc (.cells arr 5)) := by
  refine ⟨madeCells (Value.int .u8 0).cells 4, fun W => ?_, fun W => ?_⟩
  ·
   rw [show madeCells (Value.int .u8 0).cells 4 = (bys [0, 0, 0, 0]).toArray from by kernel_rfl]
   exact Rd.newU (W := W) (n := 4) (size := 1) rfl 5 (bys [0, 0, 0, 0]) rfl
  ·
   have := run_makeSlice (P := Try.prog) (w := W) 66 5 i0 (.int .u8 0) Try.underlying66 hi0 hz0 .i64 .i64 4 4 (by omega) (Int.le_refl _) (by rw [hz1]; simp) (by rw [hz2]; omega) (by omega)
   rw [hz1, Nat.mul_one] at this
   exact this
 have Harr := Lib.hid harr
 clear harr hbs
 go_enter Try.func60, Try.ntmps60
 go_upto_region 2 with (go_at_call 65; refine (HE.out _).mono ?_; rintro e w1 ⟨A, cp, rfl, hcp, hR, g1, -⟩)
 rw [hl] at hcp
 obtain ⟨ad, rfl, hadb, -⟩ := hR.2 (by omega)
 have hcpi : (12 : Int) ≤ (cp : Int) := by omega
 have hc4 : (4 : Int) ≤ (cp : Int) := by omega
 have hne4 : ¬ cp = 4 := by omega
 refine wp_region_Z 8 (fun W => Rb W (some ad) bs) (by kernel_rfl) ?_
 obtain ⟨V, hV⟩ : ∃ V, V = w1.drew := ⟨_, rfl⟩
 have hS0 : Rb V (some ad) bs := by rw [hV]; exact hR.gr (Gr.drew (Gr.refl w1))
 have GV : Hid (Gr w V) := Lib.hid (by rw [hV]; exact ((Gr.alloc (Gr.refl w) _).trans g1).drew)
 have gr0 : Gr V V := Gr.refl V
 rw [← hV]
 clear hV g1 hR hadb
 refine wpAnyZ_take (i := 1) (v := ?v1) rfl (by kernel_rfl) (fun _ _ _ h => h) (by rfl) (fun W hS => ?h1) hS0 ?r1
 case h1 => go_simp; rfl
 simp only [Act.put, List.getElem_toArray, List.getElem_cons_succ, List.getElem_cons_zero, List.setIfInBounds_toArray, List.set_cons_zero, List.set_cons_succ]
 refine wpAnyZ_take (i := 2) (v := ?v2) rfl (by kernel_rfl) (fun _ _ _ h => h) (by rfl) (fun W hS => ?h2) hS0 ?r2
 case h2 => go_simp; rfl
 simp only [Act.put, List.getElem_toArray, List.getElem_cons_succ, List.getElem_cons_zero, List.setIfInBounds_toArray, List.set_cons_zero, List.set_cons_succ]
 refine wpAnyZ_take (i := 4) (v := ?v3) rfl (by kernel_rfl) (fun _ _ _ h => h) (by rfl) (fun W hS => ?h3) hS0 ?r3
 case h3 => go_simp; rfl
 simp only [Act.put, List.getElem_toArray, List.getElem_cons_succ, List.getElem_cons_zero, List.setIfInBounds_toArray, List.set_cons_zero, List.set_cons_succ]
 refine wpAnyZ_take (i := 5) (v := ?v4) rfl (by kernel_rfl) (fun _ _ _ h => h) (by rfl) (fun W hS => ?h4) hS0 ?r4
 case h4 => go_simp; rfl
 simp only [Act.put, List.getElem_toArray, List.getElem_cons_succ, List.getElem_cons_zero, List.setIfInBounds_toArray, List.set_cons_zero, List.set_cons_succ]
 refine wpAnyZ_ready (rs := [0, 3]) (by kernel_rfl) (by simp) ?_
 refine AllReadyZ.cons (i := 0) rfl (by kernel_rfl) ?zx160 (AllReadyZ.cons (i := 3) rfl (by kernel_rfl) ?zx161 AllReadyZ.nil)
 ·
  intro K hK
  simp only [List.getElem_toArray, List.getElem_cons_succ, List.getElem_cons_zero]
  go_simp
  obtain ⟨w1, hw1⟩ : ∃ w1, w1 = V.alloc (.cells arr 5) := ⟨_, rfl⟩
  have k3 : Gr V w1 := by rw [hw1]; exact Gr.alloc (Gr.refl _) _
  have r5 : Rbf V.heap.size w1 (some ⟨V.heap.size, 0, none⟩) [0, 0, 0, 0] := ⟨by rw [hw1]; exact Harr.out _, fun ad e => by injection e with e; subst e; exact gr0.size⟩
  rw [← hw1]
  clear hw1
  have g2 := Gr.trans gr0 k3
  have s4 := Rb.gr hS0 k3
  refine hK.out _ _ (fun hnz => ?zs6) (fun _ => ?zr7)
  case zs6 => exact s4
  clear hK K
  try (simp only [Pu, List.getElem_toArray, List.getElem_cons_succ, List.getElem_cons_zero])
  refine wpAnyZ_ready (rs := [3]) (by kernel_rfl) (by simp) ?_
  refine AllReadyZ.cons (i := 3) rfl (by kernel_rfl) ?zx57 AllReadyZ.nil
  intro K hK
  simp only [List.getElem_toArray, List.getElem_cons_succ, List.getElem_cons_zero]
  refine wp_append_rd0 (.const (.slice none 0 0)) (.tmp 8) 66 rfl w1.heap.size 5 i0 _ 1 1 Try.underlying66 hi0 hz0 hz1 hz2 rfl (by decide) _ 0 [] rfl (World.ownsRow_nil _ _ _ _) (some (ad.add 4)) 8 (cp - 4) (bys (bs.drop 4)) rfl (Rb.drop4 hl s4) (bys_one _) (by unfold maxLen; omega) (by omega) (Nat.le_refl _) ?_
  intro v16 w8 o17 k100 b18
  have k10 : Gr w1 w8 := Gr.grown (Gr.refl _) k100 (fun k e => by cases e)
  rw [Nat.zero_add, List.nil_append] at o17
  obtain ⟨A14, c15, hv⟩ := own_form o17
  subst hv
  have r13 : Rbf V.heap.size w8 A14 (bs.drop 4) := ⟨Rb.own o17, fun ad e => Nat.le_trans g2.size (o17.lt ad.block (by rw [own_blkA, e]; rfl)).1⟩
  have g9 := Gr.trans g2 k10
  have s11 := Rb.gr s4 k10
  clear k100 b18 o17
  have r12 := r5.gr k10
  refine hK.out _ _ (fun hnz => ?zs19) (fun _ => ?zr20)
  case zs19 => exact s11
  clear hK K
  try (simp only [Pu, List.getElem_toArray, List.getElem_cons_succ, List.getElem_cons_zero])
  refine wpAnyZ_ready (rs := [6]) (by kernel_rfl) (by simp) ?_
  refine AllReadyZ.cons (i := 6) rfl (by kernel_rfl) ?zx56 AllReadyZ.nil
  intro K hK
  simp only [List.getElem_toArray, List.getElem_cons_succ, List.getElem_cons_zero]
  refine wp_append_rd0 (.const (.slice none 0 0)) (.tmp 11) 66 rfl w8.heap.size 5 i0 _ 1 1 Try.underlying66 hi0 hz0 hz1 hz2 rfl (by decide) _ 0 [] rfl (World.ownsRow_nil _ _ _ _) (some ad) 4 cp (bys (bs.take 4)) rfl (Rb.take4 hl s11) (bys_one _) (by unfold maxLen; omega) (by omega) (Nat.le_refl _) ?_
  intro v30 w21 o31 k230 b32
  have k23 : Gr w8 w21 := Gr.grown (Gr.refl _) k230 (fun k e => by cases e)
  rw [Nat.zero_add, List.nil_append] at o31
  obtain ⟨A28, c29, hv⟩ := own_form o31
  subst hv
  have r27 : Rbf V.heap.size w21 A28 (bs.take 4) := ⟨Rb.own o31, fun ad e => Nat.le_trans g9.size (o31.lt ad.block (by rw [own_blkA, e]; rfl)).1⟩
  have g22 := Gr.trans g9 k23
  have s24 := Rb.gr s11 k23
  clear k230 b32 o31
  have r25 := r12.gr k23
  have r26 := r13.gr k23
  refine hK.out _ _ (fun hnz => ?zs33) (fun _ => ?zr34)
  case zs33 => exact s24
  clear hK K
  try (simp only [Pu, List.getElem_toArray, List.getElem_cons_succ, List.getElem_cons_zero])
  refine wpAnyZ_ready (rs := [7]) (by kernel_rfl) (by simp) ?_
  refine AllReadyZ.cons (i := 7) rfl (by kernel_rfl) ?zx55 AllReadyZ.nil
  intro K hK
  simp only [List.getElem_toArray, List.getElem_cons_succ, List.getElem_cons_zero]
  go_simp
  obtain ⟨w35, hw35⟩ : ∃ w35, w35 = w21.alloc (.cells #[(.slice (some ⟨V.heap.size, 0, none⟩) 4 4), (.slice A14 8 c15), (.slice A28 4 c29)] 66) := ⟨_, rfl⟩
  have k37 : Gr w21 w35 := by rw [hw35]; exact Gr.alloc (Gr.refl _) _
  have q42 := And.intro (three_new (w := w21) hw35) g22.size
  rw [← hw35]
  clear hw35
  have g36 := Gr.trans g22 k37
  have s38 := Rb.gr s24 k37
  have r39 := r25.gr k37
  have r40 := r26.gr k37
  have r41 := r27.gr k37
  refine hK.out _ _ (fun hnz => ?zs43) (fun _ => ?zr44)
  case zs43 => exact s38
  clear hK K
  try (simp only [Pu, List.getElem_toArray, List.getElem_cons_succ, List.getElem_cons_zero])
  refine wpAnyZ_ready (rs := [8]) (by kernel_rfl) (by simp) ?_
  refine AllReadyZ.cons (i := 8) rfl (by kernel_rfl) ?zx54 AllReadyZ.nil
  intro K hK
  simp only [List.getElem_toArray, List.getElem_cons_succ, List.getElem_cons_zero]
  go_simp
  refine hK.out _ _ (fun hnz => ?zs52) (fun _ => ?zr53)
  case zs52 => exact absurd rfl hnz
  clear hK K
  try (simp only [Pu, List.getElem_toArray, List.getElem_cons_succ, List.getElem_cons_zero])
  refine wpAnyZ_done (by kernel_rfl) ?_ _
  go_wp2
  go_ret
  exact RetWr.of GV.out.size HD.out q42 r39 r40 r41 (Gr.trans GV.out g36)
 ·
  intro K hK
  simp only [List.getElem_toArray, List.getElem_cons_succ, List.getElem_cons_zero]
  refine wp_append_rd0 (.const (.slice none 0 0)) (.tmp 8) 66 rfl V.heap.size 5 i0 _ 1 1 Try.underlying66 hi0 hz0 hz1 hz2 rfl (by decide) _ 0 [] rfl (World.ownsRow_nil _ _ _ _) (some (ad.add 4)) 8 (cp - 4) (bys (bs.drop 4)) rfl (Rb.drop4 hl hS0) (bys_one _) (by unfold maxLen; omega) (by omega) (Nat.le_refl _) ?_
  intro v65 w58 o66 k600 b67
  have k60 : Gr V w58 := Gr.grown (Gr.refl _) k600 (fun k e => by cases e)
  rw [Nat.zero_add, List.nil_append] at o66
  obtain ⟨A63, c64, hv⟩ := own_form o66
  subst hv
  have r62 : Rbf V.heap.size w58 A63 (bs.drop 4) := ⟨Rb.own o66, fun ad e => Nat.le_trans gr0.size (o66.lt ad.block (by rw [own_blkA, e]; rfl)).1⟩
  have g59 := Gr.trans gr0 k60
  have s61 := Rb.gr hS0 k60
  clear k600 b67 o66
  refine hK.out _ _ (fun hnz => ?zs68) (fun _ => ?zr69)
  case zs68 => exact s61
  clear hK K
  try (simp only [Pu, List.getElem_toArray, List.getElem_cons_succ, List.getElem_cons_zero])
  refine wpAnyZ_ready (rs := [0, 6]) (by kernel_rfl) (by simp) ?_
  refine AllReadyZ.cons (i := 0) rfl (by kernel_rfl) ?zx158 (AllReadyZ.cons (i := 6) rfl (by kernel_rfl) ?zx159 AllReadyZ.nil)
  ·
   intro K hK
   simp only [List.getElem_toArray, List.getElem_cons_succ, List.getElem_cons_zero]
   go_simp
   obtain ⟨w70, hw70⟩ : ∃ w70, w70 = w58.alloc (.cells arr 5) := ⟨_, rfl⟩
   have k72 : Gr w58 w70 := by rw [hw70]; exact Gr.alloc (Gr.refl _) _
   have r75 : Rbf V.heap.size w70 (some ⟨w58.heap.size, 0, none⟩) [0, 0, 0, 0] := ⟨by rw [hw70]; exact Harr.out _, fun ad e => by injection e with e; subst e; exact g59.size⟩
   rw [← hw70]
   clear hw70
   have g71 := Gr.trans g59 k72
   have s73 := Rb.gr s61 k72
   have r74 := r62.gr k72
   refine hK.out _ _ (fun hnz => ?zs76) (fun _ => ?zr77)
   case zs76 => exact s73
   clear hK K
   try (simp only [Pu, List.getElem_toArray, List.getElem_cons_succ, List.getElem_cons_zero])
   refine wpAnyZ_ready (rs := [6]) (by kernel_rfl) (by simp) ?_
   refine AllReadyZ.cons (i := 6) rfl (by kernel_rfl) ?zx113 AllReadyZ.nil
   intro K hK
   simp only [List.getElem_toArray, List.getElem_cons_succ, List.getElem_cons_zero]
   refine wp_append_rd0 (.const (.slice none 0 0)) (.tmp 11) 66 rfl w70.heap.size 5 i0 _ 1 1 Try.underlying66 hi0 hz0 hz1 hz2 rfl (by decide) _ 0 [] rfl (World.ownsRow_nil _ _ _ _) (some ad) 4 cp (bys (bs.take 4)) rfl (Rb.take4 hl s73) (bys_one _) (by unfold maxLen; omega) (by omega) (Nat.le_refl _) ?_
   intro v87 w78 o88 k800 b89
   have k80 : Gr w70 w78 := Gr.grown (Gr.refl _) k800 (fun k e => by cases e)
   rw [Nat.zero_add, List.nil_append] at o88
   obtain ⟨A85, c86, hv⟩ := own_form o88
   subst hv
   have r84 : Rbf V.heap.size w78 A85 (bs.take 4) := ⟨Rb.own o88, fun ad e => Nat.le_trans g71.size (o88.lt ad.block (by rw [own_blkA, e]; rfl)).1⟩
   have g79 := Gr.trans g71 k80
   have s81 := Rb.gr s73 k80
   clear k800 b89 o88
   have r82 := r75.gr k80
   have r83 := r74.gr k80
   refine hK.out _ _ (fun hnz => ?zs90) (fun _ => ?zr91)
   case zs90 => exact s81
   clear hK K
   try (simp only [Pu, List.getElem_toArray, List.getElem_cons_succ, List.getElem_cons_zero])
   refine wpAnyZ_ready (rs := [7]) (by kernel_rfl) (by simp) ?_
   refine AllReadyZ.cons (i := 7) rfl (by kernel_rfl) ?zx112 AllReadyZ.nil
   intro K hK
   simp only [List.getElem_toArray, List.getElem_cons_succ, List.getElem_cons_zero]
   go_simp
   obtain ⟨w92, hw92⟩ : ∃ w92, w92 = w78.alloc (.cells #[(.slice (some ⟨w58.heap.size, 0, none⟩) 4 4), (.slice A63 8 c64), (.slice A85 4 c86)] 66) := ⟨_, rfl⟩
   have k94 : Gr w78 w92 := by rw [hw92]; exact Gr.alloc (Gr.refl _) _
   have q99 := And.intro (three_new (w := w78) hw92) g79.size
   rw [← hw92]
   clear hw92
   have g93 := Gr.trans g79 k94
   have s95 := Rb.gr s81 k94
   have r96 := r82.gr k94
   have r97 := r83.gr k94
   have r98 := r84.gr k94
   refine hK.out _ _ (fun hnz => ?zs100) (fun _ => ?zr101)
   case zs100 => exact s95
   clear hK K
   try (simp only [Pu, List.getElem_toArray, List.getElem_cons_succ, List.getElem_cons_zero])
   refine wpAnyZ_ready (rs := [8]) (by kernel_rfl) (by simp) ?_
   refine AllReadyZ.cons (i := 8) rfl (by kernel_rfl) ?zx111 AllReadyZ.nil
   intro K hK
   simp only [List.getElem_toArray, List.getElem_cons_succ, List.getElem_cons_zero]
   go_simp
   refine hK.out _ _ (fun hnz => ?zs109) (fun _ => ?zr110)
   case zs109 => exact absurd rfl hnz
   clear hK K
   try (simp only [Pu, List.getElem_toArray, List.getElem_cons_succ, List.getElem_cons_zero])
   refine wpAnyZ_done (by kernel_rfl) ?_ _
   go_wp2
   go_ret
   exact RetWr.of GV.out.size HD.out q99 r96 r97 r98 (Gr.trans GV.out g93)
  ·
   intro K hK
   simp only [List.getElem_toArray, List.getElem_cons_succ, List.getElem_cons_zero]
   refine wp_append_rd0 (.const (.slice none 0 0)) (.tmp 11) 66 rfl w58.heap.size 5 i0 _ 1 1 Try.underlying66 hi0 hz0 hz1 hz2 rfl (by decide) _ 0 [] rfl (World.ownsRow_nil _ _ _ _) (some ad) 4 cp (bys (bs.take 4)) rfl (Rb.take4 hl s61) (bys_one _) (by unfold maxLen; omega) (by omega) (Nat.le_refl _) ?_
   intro v122 w114 o123 k1160 b124
   have k116 : Gr w58 w114 := Gr.grown (Gr.refl _) k1160 (fun k e => by cases e)
   rw [Nat.zero_add, List.nil_append] at o123
   obtain ⟨A120, c121, hv⟩ := own_form o123
   subst hv
   have r119 : Rbf V.heap.size w114 A120 (bs.take 4) := ⟨Rb.own o123, fun ad e => Nat.le_trans g59.size (o123.lt ad.block (by rw [own_blkA, e]; rfl)).1⟩
   have g115 := Gr.trans g59 k116
   have s117 := Rb.gr s61 k116
   clear k1160 b124 o123
   have r118 := r62.gr k116
   refine hK.out _ _ (fun hnz => ?zs125) (fun _ => ?zr126)
   case zs125 => exact s117
   clear hK K
   try (simp only [Pu, List.getElem_toArray, List.getElem_cons_succ, List.getElem_cons_zero])
   refine wpAnyZ_ready (rs := [0]) (by kernel_rfl) (by simp) ?_
   refine AllReadyZ.cons (i := 0) rfl (by kernel_rfl) ?zx157 AllReadyZ.nil
   intro K hK
   simp only [List.getElem_toArray, List.getElem_cons_succ, List.getElem_cons_zero]
   go_simp
   obtain ⟨w127, hw127⟩ : ∃ w127, w127 = w114.alloc (.cells arr 5) := ⟨_, rfl⟩
   have k129 : Gr w114 w127 := by rw [hw127]; exact Gr.alloc (Gr.refl _) _
   have r133 : Rbf V.heap.size w127 (some ⟨w114.heap.size, 0, none⟩) [0, 0, 0, 0] := ⟨by rw [hw127]; exact Harr.out _, fun ad e => by injection e with e; subst e; exact g115.size⟩
   rw [← hw127]
   clear hw127
   have g128 := Gr.trans g115 k129
   have s130 := Rb.gr s117 k129
   have r131 := r118.gr k129
   have r132 := r119.gr k129
   refine hK.out _ _ (fun hnz => ?zs134) (fun _ => ?zr135)
   case zs134 => exact s130
   clear hK K
   try (simp only [Pu, List.getElem_toArray, List.getElem_cons_succ, List.getElem_cons_zero])
   refine wpAnyZ_ready (rs := [7]) (by kernel_rfl) (by simp) ?_
   refine AllReadyZ.cons (i := 7) rfl (by kernel_rfl) ?zx156 AllReadyZ.nil
   intro K hK
   simp only [List.getElem_toArray, List.getElem_cons_succ, List.getElem_cons_zero]
   go_simp
   obtain ⟨w136, hw136⟩ : ∃ w136, w136 = w127.alloc (.cells #[(.slice (some ⟨w114.heap.size, 0, none⟩) 4 4), (.slice A63 8 c64), (.slice A120 4 c121)] 66) := ⟨_, rfl⟩
   have k138 : Gr w127 w136 := by rw [hw136]; exact Gr.alloc (Gr.refl _) _
   have q143 := And.intro (three_new (w := w127) hw136) g128.size
   rw [← hw136]
   clear hw136
   have g137 := Gr.trans g128 k138
   have s139 := Rb.gr s130 k138
   have r140 := r133.gr k138
   have r141 := r131.gr k138
   have r142 := r132.gr k138
   refine hK.out _ _ (fun hnz => ?zs144) (fun _ => ?zr145)
   case zs144 => exact s139
   clear hK K
   try (simp only [Pu, List.getElem_toArray, List.getElem_cons_succ, List.getElem_cons_zero])
   refine wpAnyZ_ready (rs := [8]) (by kernel_rfl) (by simp) ?_
   refine AllReadyZ.cons (i := 8) rfl (by kernel_rfl) ?zx155 AllReadyZ.nil
   intro K hK
   simp only [List.getElem_toArray, List.getElem_cons_succ, List.getElem_cons_zero]
   go_simp
   refine hK.out _ _ (fun hnz => ?zs153) (fun _ => ?zr154)
   case zs153 => exact absurd rfl hnz
   clear hK K
   try (simp only [Pu, List.getElem_toArray, List.getElem_cons_succ, List.getElem_cons_zero])
   refine wpAnyZ_done (by kernel_rfl) ?_ _
   go_wp2
   go_ret
   exact RetWr.of GV.out.size HD.out q143 r140 r141 r142 (Gr.trans GV.out g137)
end Go.Proofs.Ytoncapkmaeghfaa
namespace Go.Proofs.Ytoncapkmaeghfaa
set_option linter.unusedVariables false
set_option linter.unusedSimpArgs false
open Go

section
variable {P : Program} {ops : Array Oper} {md : Region.Mode} {C : World → Prop}

/-- the head: each operation that may come up is one of the first n, and is quiet in the class. -/
def headQ (P : Program) (md : Region.Mode) (ops : Array Oper) (C : World → Prop) (n : Nat) (L : Array Bool → Act → Prop) : Nat → Array Bool → Act → Prop
 | 0, listed, a => L listed a
 | f + 1, listed, a =>
  Region.ready md ops listed ≠ [] ∧ ∀ i ∈ Region.ready md ops listed, i < n ∧ qOp P ops C i (headQ P md ops C n L f (listed.setIfInBounds i true)) a

theorem any_of_headQ {n g : Nat} {L : Array Bool → Act → Prop} {Q' : Exit → Act → World → Prop} (hL : ∀ listed a w, C w → L listed a → wpAny P md ops Q' g listed a w) :
  ∀ (f : Nat) (listed : Array Bool) (a : Act) (w : World), C w → headQ P md ops C n L f listed a → wpAny P md ops Q' (f + g) listed a w
 | 0, listed, a, w, hw, h => by rw [Nat.zero_add]; exact hL _ _ _ hw h
 | f + 1, listed, a, w, hw, h => by
  rw [show f + 1 + g = (f + g) + 1 by omega]
  exact ⟨fun h0 => absurd h0 h.1, fun i hi => wpOp_of_qOp hw (fun a' w' hw' h' => any_of_headQ hL f _ a' w' hw' h') (h.2 i hi).2⟩

theorem headQ_first {n i : Nat} {oi : Oper} {v : Value} {L : Array Bool → Act → Prop} (hi : ops[i]? = some oi) (hsel : ∀ (j : Nat) (o : Oper) cs b, ops[j]? = some o → o.op ≠ .select cs b)
  (hs : Region.sinkB md ops n = true) (hc : Region.chainB md ops n = true) (hn : n < ops.size) (hin : i < n)
  (hdone : ∀ listed a, L listed a → ∀ j ∈ Region.ready md ops listed, n ≤ j) :
  ∀ (f : Nat) (listed : Array Bool) (a : Act), HeadInv md ops n listed →
   (∀ j oj, ops[j]? = some oj → j ≠ i → listed.getD j true = false → (∀ e ∈ oj.after, Region.binds md e = true → e.on ≠ i) → oi.apart ops oj = true) →
   i ∈ Region.ready md ops listed → YieldsIn P ops C oi v a →
   headQ P md ops C n L f (listed.setIfInBounds i true) (a.put oi.dst v) → headQ P md ops C n L (f + 1) listed a := by
 intro f
 induction f with
 | zero =>
  intro listed a inv _ hr hy H
  have hun := (mem_ready.1 hr).1
  refine ⟨fun h => (by rw [h] at hr; cases hr), fun j hj => ?_⟩
  have hjn : j < n := Nat.lt_of_not_ge fun h => absurd hj (tail_waits hs hc hn inv _ i rfl hin hun j h)
  refine ⟨hjn, ?_⟩
  by_cases hji : j = i
  ·
   subst hji; exact hy.qOp hi H
  ·
   exact absurd (hdone _ _ H j (ready_mono hj hji)) (by omega)
 | succ f ih =>
  intro listed a inv hfree hr hy H
  have hun := (mem_ready.1 hr).1
  refine ⟨fun h => (by rw [h] at hr; cases hr), fun j hj => ?_⟩
  have hjn : j < n := Nat.lt_of_not_ge fun h => absurd hj (tail_waits hs hc hn inv _ i rfl hin hun j h)
  refine ⟨hjn, ?_⟩
  by_cases hji : j = i
  ·
   subst hji; exact hy.qOp hi H
  ·
   have h1 := (H.2 j (ready_mono hj hji)).2
   obtain ⟨hjun, oj, hoj, hall⟩ := mem_ready.1 hj
   have hnot : ∀ e ∈ oj.after, Region.binds md e = true → e.on ≠ i := fun e he hb heq => by
    have h2 := hall e he hb
    rw [heq, getD_both hun] at h2
    cases h2
   have h2 := qOp_put hoj (hfree j oj hoj hji hjun hnot) (fun cs b => hsel i oi cs b hi) (fun cs b => hsel j oj cs b hoj) hy h1
   refine qOp_mono (fun a' h3 => ih (listed.setIfInBounds j true) a' (inv.set hj hjn) (fun k ok hk hki hk0 hno => hfree k ok hk hki ?_ hno) (ready_mono hr (Ne.symm hji)) h3.1 ?_) h2
   ·
    by_cases hjk : j = k
    ·
     subst hjk; exact hjun
    ·
     rwa [getD_set_ne true hjk] at hk0
   ·
    rw [Array.setIfInBounds_comm _ _ hji]; exact h3.2

theorem headQ_lex {n g : Nat} {Lq : Act → Prop} (hsel : Region.noSelect ops = true) (hs : Region.sinkB md ops n = true) (hc : Region.chainB md ops n = true) (hn : n < ops.size) :
  ∀ (l : List Oper) (k : Nat) (listed : Array Bool) (a : Act), (∀ j, j < l.length → l[j]? = ops[k + j]?) → k + l.length = n → HeadInv md ops n listed →
  Region.lexHead md ops g l.length k listed = true → wpQuiet P ops C Lq l a →
  headQ P md ops C n (fun listed' a' => Region.seqB md ops g n listed' = true ∧ Lq a') l.length listed a
 | [], k, listed, a, _, hk, _, hB, h => by
  have : k = n := by simpa using hk
  subst this
  exact ⟨by simpa [Region.lexHead] using hB, h⟩
 | o :: l, k, listed, a, hl, hk, inv, hB, h => by
  have h0 : ops[k]? = some o := by simpa using (hl 0 (by simp)).symm
  simp only [List.length_cons, Region.lexHead, Bool.and_eq_true] at hB
  obtain ⟨⟨hr, hf⟩, hB'⟩ := hB
  have hkn : k < n := by simp only [List.length_cons] at hk; omega
  have hr' : k ∈ Region.ready md ops listed := by simpa using hr
  have hst : qOp P ops C k (wpQuiet P ops C Lq l) a := by unfold qOp; simp only [h0]; exact h
  obtain ⟨v, hy, hK⟩ := yieldsIn_of_qOp h0 hst
  refine headQ_first h0 (Region.noSelect_spec hsel) hs hc hn hkn (fun listed' a' hL => seqB_ready hL.1) l.length listed a inv (Region.free_spec h0 hf) hr' hy
   (headQ_lex hsel hs hc hn l (k + 1) _ _ (fun j hj => ?_) (by simp only [List.length_cons] at hk; omega) (inv.set hr' hkn) hB' hK)
  have := hl (j + 1) (by simp; omega)
  simpa [Nat.add_assoc, Nat.add_comm 1 j] using this

/-- the beginning: at the class 'all that was there is as it was'. -/
theorem region_T {id : Nat} {Q : Exit → Act → World → Prop} {a : Act} {w : World} {l : List Oper} (n : Nat) (hm : P.follows .mixedOrders = true) (hB : Region.lexTailB .any l.toArray n = true)
  (h : wpQuiet P l.toArray (fun W => Gr w W) (fun a' => ∀ w', Gr w w' → wpList P l.toArray Q (l.drop n) a' w') (l.take n) a) : (Code.region id l.toArray true).wp P Q a w := by
 simp only [Region.lexTailB, Bool.and_eq_true, decide_eq_true_eq] at hB
 obtain ⟨⟨⟨⟨hsel, hn⟩, hs⟩, hc⟩, hlex⟩ := hB
 have hn' : n < l.length := by simpa using hn
 have htl : (l.take n).length = n := by simp; omega
 have hdl : (l.drop n).length = l.toArray.size - n := by simp
 have inv0 : HeadInv .any l.toArray n (Array.replicate l.toArray.size false) :=
  ⟨by simp, fun j oj _ hl => (by rw [getD_replicate_false] at hl; cases hl), fun t _ ht => getD_in (by simpa using ht) (getD_replicate_false _ _)⟩
 have H := headQ_lex (md := .any) (g := l.toArray.size - n) hsel hs hc hn (l.take n) 0 _ a (fun j hj => by
  have hj' : j < n := by rw [htl] at hj; exact hj
  simp [hj']) (by simpa using htl) inv0 (by rw [htl]; exact hlex) h
 refine wp_region_any hm ?_
 have := any_of_headQ (Q' := Q) (g := l.toArray.size - n) (fun listed a' w' hw' hL => by
  have := wpAny_of_seq (md := .any) (Q' := Q) (l.drop n) n listed a' w' (fun j => by simp [List.getElem?_drop]) (by rw [hdl]; exact hL.1) (hL.2 w' hw')
  rwa [hdl] at this) _ _ _ _ (Gr.drew (Gr.refl w)) H
 rw [htl, show n + (l.toArray.size - n) = l.toArray.size by omega] at this
 exact this
end
end Go.Proofs.Ytoncapkmaeghfaa
