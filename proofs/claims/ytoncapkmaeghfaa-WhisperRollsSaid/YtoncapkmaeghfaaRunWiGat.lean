/- An archive's slot put together from the archive ahead: (*whisper.file).gathers. -/
import Derived.Test.YtoncapkmaeghfaaRunWiWri
namespace Go.Proofs.Ytoncapkmaeghfaa
set_option linter.unusedVariables false
set_option linter.unusedSimpArgs false
open Go.RowKit

/-- a new block of two cells. -/
structure NBl (B0 : Nat) (w : World) (b : Nat) (x y : Value) : Prop where
 c0 : w.cell? ⟨b, 0, none⟩ = some x
 c1 : w.cell? ⟨b, 1, none⟩ = some y
 f0 : w.frozen? ⟨b, 0, none⟩ = false
 f1 : w.frozen? ⟨b, 1, none⟩ = false
 lo : B0 ≤ b
 lt : b < w.heap.size
theorem NBl.new (w : World) (x y : Value) (T : TypeId) : NBl w.heap.size (w.alloc (.cells #[x, y] T)) w.heap.size x y := ⟨by go_simp, by go_simp, by go_simp, by go_simp, Nat.le_refl _, by simp⟩
theorem NBl.gr {B0 b : Nat} {w w' : World} {x y : Value} (h : NBl B0 w b x y) (g : Gr w w') : NBl B0 w' b x y :=
 ⟨(Below.cell g (p := ⟨b, 0, none⟩) h.lt).trans h.c0, (Below.cell g (p := ⟨b, 1, none⟩) h.lt).trans h.c1, (Below.frozen g (p := ⟨b, 0, none⟩) h.lt).trans h.f0, (Below.frozen g (p := ⟨b, 1, none⟩) h.lt).trans h.f1, h.lo, Nat.lt_of_lt_of_le h.lt g.size⟩
theorem NBl.set {B0 b : Nat} {w : World} {x y : Value} (h : NBl B0 w b x y) (u v : Value) (_ : 0 = 0) (_ : 0 = 0) : NBl B0 ((w.setCell ⟨b, 0, none⟩ u).setCell ⟨b, 1, none⟩ v) b u v :=
 ⟨(World.cell?_setCell_other _ ⟨b, 1, none⟩ ⟨b, 0, none⟩ _ (by first | (simp; done) | (simp; omega))).trans (World.cell?_setCell_same' _ _ _ (by rw [h.c0]; rfl)), World.cell?_setCell_same' _ _ _ (by rw [World.cell?_setCell_other w ⟨b, 0, none⟩ ⟨b, 1, none⟩ _ (by first | (simp; done) | (simp; omega)), h.c1]; rfl), by rw [World.frozen?_setCell, World.frozen?_setCell]; exact h.f0, by rw [World.frozen?_setCell, World.frozen?_setCell]; exact h.f1, h.lo, by simpa using h.lt⟩
theorem NBl.other {B0 b b' : Nat} {w : World} {x y : Value} (h : NBl B0 w b x y) (u v : Value) (hn : b ≠ b') : NBl B0 ((w.setCell ⟨b', 0, none⟩ u).setCell ⟨b', 1, none⟩ v) b x y := by
 have e : ∀ o, ((w.setCell ⟨b', 0, none⟩ u).setCell ⟨b', 1, none⟩ v).cell? ⟨b, o, none⟩ = w.cell? ⟨b, o, none⟩ := fun o => by
  rw [World.cell?_setCell_other _ ⟨b', 1, none⟩ ⟨b, o, none⟩ _ (by first | (simp [hn]; done) | (simp; omega)), World.cell?_setCell_other _ ⟨b', 0, none⟩ ⟨b, o, none⟩ _ (by first | (simp [hn]; done) | (simp; omega))]
 exact ⟨(e 0).trans h.c0, (e 1).trans h.c1, by rw [World.frozen?_setCell, World.frozen?_setCell]; exact h.f0, by rw [World.frozen?_setCell, World.frozen?_setCell]; exact h.f1, h.lo, by simpa using h.lt⟩
/-- how many values an archive's slot is put together of. -/
theorem quot_le {m : Arcs} (h : mayS m = true) {i : Nat} (hi : i < m.length) (h0 : 0 < i) : stpS m i / stpS m (i - 1) ≤ cntS m (i - 1) ∧ cntS m (i - 1) ≤ 87381 := by
 have h2 := mayS_facts h
 rw [mayS_eq] at h
 simp only [Bool.and_eq_true, Nat.ble_eq] at h
 have h3 := ((steps_iff m).1 h.1.1.2).2 i hi
 rw [stepOk_at hi, Bool.and_eq_true, Bool.or_eq_true] at h3
 have h4 : fitsS (m[i - 1]'(by omega)) m[i] = true := h3.2.resolve_left (by simp; omega)
 rw [stpS_at hi, stpS_at (show i - 1 < m.length by omega), cntS_at (show i - 1 < m.length by omega)]
 have h5 : fitsS ((m[i - 1]'(by omega)).1, (m[i - 1]'(by omega)).2) (m[i].1, m[i].2) = true := h4
 unfold fitsS at h5
 simp only [Bool.and_eq_true, Nat.ble_eq, Nat.blt_eq] at h5
 refine ⟨h5.2, ?_⟩
 have h6 := sizeS_mono m i
 have h7 := sizeS_take (l := m) (k := i - 1) (by omega)
 rw [show i - 1 + 1 = i by omega] at h7
 have := h2.2.2.1
 omega
/-- a slot was put together, or not. -/
def RetGa (w : World) (X F P M : Nat) (R : Option Nat) (room : Int) (n ag xf b c : Nat) (m : Arcs) (g d : Nat) (D : List UInt8) (o : Option (List UInt8)) (e : Ending) (w' : World) : Prop :=
 e = .returned (.bool o.isSome) ∧ ∃ R' n', n' ≤ n + 3 ∧ FiM w' X F P M R' room n' ag xf b c m g d (o.getD D) ∧ Kp (Tcg P M R g) w w' ∧ ∀ j, R' = some j → R = some j ∨ w.heap.size ≤ j
set_option maxRecDepth 100000 in
set_option maxHeartbeats 6400000 in
theorem wgathers_any {X F P M : Nat} {R : Option Nat} {room : Int} {n ag xf b c : Nat} {m : Arcs} {g d : Nat} {D : List UInt8} (i : Nat) (hi : i < m.length) (h0 : 0 < i) (t : Int) (ht0 : 0 ≤ t) (ht : t ≤ 4294967295) (hn : n ≤ 999000) (w : World) (h : FiM w X F P M R room n ag xf b c m g d D) : Calls Try.prog 48 #[.pointer (some ⟨X, 0, none⟩), .int .i64 i, .int .i64 t] w (RetGa w X F P M R room n ag xf b c m g d D (gathS ag xf m D i t)) := by
 obtain ⟨v0, hv0, vz0, vz1, vz2⟩ := info_parts info_val
 have hF := MayF.ofH h.may
 have hmS : mayS m = true := by have h2 := h.may; unfold mayH at h2; rw [Bool.and_eq_true, nats_ints] at h2; exact h2.2
 have hq := quot_le hmS hi h0
 have hs1 := hF.s1 i hi
 have hi0 : i - 1 < m.length := by omega
 have hs0 := hF.s1 (i - 1) hi0
 obtain ⟨T, hT⟩ : ∃ T, T = alignS t (stpS m i) := ⟨_, rfl⟩
 have hTf := align_facts (t := t) (step := (stpS m i : Int)) (by omega) ht0
 have hal := fun W => align_any t (stpS m i) (by omega) W
 rw [← hT] at hTf hal
 have hga : gathS ag xf m D i t = if (putV ag xf (gathL m D i T)).ok = true ∧ 1 ≤ T then some (layS m D i T (putV ag xf (gathL m D i T)).n) else none := by unfold gathS gathV; rw [← hT]
 rw [hga]
 have hgl : gathL m D i T = (List.range (stpS m i / stpS m (i - 1))).map fun (k : Nat) => hasV m D (i - 1) (T + k * stpS m (i - 1)) := rfl
 have hput := fun W A c l (hl : l.length ≤ 1000000) (hr : Rv W A l) => put_any ag xf A c l W hl hr
 obtain ⟨S1, hS1⟩ : ∃ S1, S1 = stpS m i := ⟨_, rfl⟩
 obtain ⟨C1, hC1⟩ : ∃ C1, C1 = cntS m i := ⟨_, rfl⟩
 obtain ⟨S0, hS0e⟩ : ∃ S0, S0 = stpS m (i - 1) := ⟨_, rfl⟩
 obtain ⟨C0, hC0⟩ : ∃ C0, C0 = cntS m (i - 1) := ⟨_, rfl⟩
 have HA1 : Hid (∀ W, Gr w W → W.cell? ⟨b, i * 2, none⟩ = some (.int .i64 S1) ∧ W.cell? ⟨b, i * 2 + 1, none⟩ = some (.int .i64 C1)) := Lib.hid fun W gW => by rw [hS1, hC1]; exact (h.gr gW).arc hi
 have HA0 : Hid (∀ W, Gr w W → W.cell? ⟨b, (i - 1) * 2, none⟩ = some (.int .i64 S0) ∧ W.cell? ⟨b, (i - 1) * 2 + 1, none⟩ = some (.int .i64 C0)) := Lib.hid fun W gW => by rw [hS0e, hC0]; exact (h.gr gW).arc hi0
 obtain ⟨N, hN⟩ : ∃ N, N = S1 / S0 := ⟨_, rfl⟩
 rw [← hS1, ← hS0e, ← hN] at hgl
 rw [← hS1, ← hS0e, ← hN] at hq
 rw [← hS1] at hs1 hal
 rw [← hS0e] at hs0
 have hNi : (N : Int) ≤ 87381 := by omega
 have hNm : N ≤ 1000000 := Nat.le_trans (Nat.le_trans hq.1 hq.2) (by decide)
 have hqi : Int.tdiv (S1 : Int) (S0 : Int) = (N : Int) := by rw [Int.tdiv_eq_ediv_of_nonneg (by omega), hN]; simp
 have hw1 : IntKind.i64.wrap (Int.tdiv (S1 : Int) (S0 : Int)) = (N : Int) := by rw [hqi]; exact IntWalk.i64_in _ (by omega)
 have hS0n : ¬ (S0 : Int) = 0 := by omega
 have h01 : (0 : Int) ≤ (S1 : Int) := by omega
 have hw1b : wrap64 ((S1 : Int) / (S0 : Int)) = (N : Int) := by
  have e : (S1 : Int) / (S0 : Int) = (N : Int) := by rw [hN]; simp
  rw [e]; exact IntWalk.wrap64_in (N : Int) (by omega)
 obtain ⟨j, hj⟩ : ∃ j, j = i - 1 := ⟨_, rfl⟩
 have hm8 : (m.length : Int) ≤ 8 := by have := hF.l8; omega
 have hij : (i : Int) - 1 = (j : Int) := by omega
 have hw2 : IntKind.i64.wrap ((i : Int) - 1) = (j : Int) := by rw [hij]; exact IntWalk.i64_in _ (by omega)
 have hil : (i : Int) < (m.length : Int) := by omega
 have hjl : (j : Int) < (m.length : Int) := by omega
 have hwi : IntKind.i64.wrap (i : Int) = (i : Int) := IntWalk.i64_in _ (by omega)
 have hwj : IntKind.i64.wrap (j : Int) = (j : Int) := IntWalk.i64_in _ (by omega)
 have hNS : ∀ k : Nat, k < N → k * S0 ≤ S1 := fun k hk => Nat.le_trans (Nat.mul_le_mul_right S0 (Nat.le_of_lt hk)) (by rw [hN]; exact Nat.div_mul_le_self S1 S0)
 rw [← hj] at HA0 hgl
 obtain ⟨L, hL⟩ : ∃ L, L = gathL m D i T := ⟨_, rfl⟩
 rw [← hL]
 have hLl : L.length = N := by rw [hL, hgl, List.length_map, List.length_range]
 have hLq : ∀ q (hq : q < L.length), L[q] = hasV m D j (T + q * S0) := fun q hq => by
  subst hL
  simp only [hgl, List.getElem_map, List.getElem_range]
 have HLm := Lib.hid (show L.length ≤ 1000000 by rw [hLl]; exact hNm)
 have HL := Lib.hid (And.intro hLl (And.intro hLq hL))
 obtain ⟨pv, hpv⟩ : ∃ pv, pv = putV ag xf L := ⟨_, rfl⟩
 rw [← hpv]
 obtain ⟨vo, vn⟩ := pv
 have HPV := Lib.hid hpv
 obtain ⟨o, ho⟩ : ∃ o, o = if vo = true ∧ 1 ≤ T then some (layS m D i T vn) else none := ⟨_, rfl⟩
 simp only [← ho]
 have HOO := Lib.hid ho
 clear ho
 clear hpv hL hLl hLq
 have HHAS := Lib.hid (fun W (gW : Gr w W) (x : Int) (hx0 : 0 ≤ x) (hx : x ≤ 4611686018427387904) => whas_any j (by rw [hj]; exact hi0) x hx0 hx W (h.gr gW))
 have HAL := Lib.hid hal
 have H0 := Lib.hid h
 have HPU := Lib.hid hput
 have HI := Lib.hid (And.intro hi (And.intro h0 (And.intro hj (And.intro hn (And.intro hNS hgl)))))
 have hS1i : (S1 : Int) ≤ 16777216 := by omega
 have hS0i : (S0 : Int) ≤ 16777216 := by omega
 have hT0 : 0 ≤ T := hTf.1
 have hTi : T ≤ 4294967295 := by omega
 clear h hF hmS hq hi0 hs0 hs1 hTf hal hga hput hS1 hC1 hS0e hC0 hN hj hNS hgl hT ht0 hi h0 hn hqi
 go_enter Try.func48, Try.ntmps48
 go_upto_region 1 with (fail)
 go_cut [7, 8] from 13 to 81 (fun s7 s8 wx => ∃ p7 p8, s7 = .pointer (some ⟨p7, 0, none⟩) ∧ s8 = .pointer (some ⟨p8, 0, none⟩) ∧ wx.cell? ⟨p7, 0, none⟩ = some (.int .i64 S1) ∧ wx.cell? ⟨p8, 0, none⟩ = some (.int .i64 S0) ∧ p7 < wx.heap.size ∧ p8 < wx.heap.size ∧ Gr w wx)
 case first =>
  refine wp_region_Z 20 (Gr w) (by kernel_rfl) ?_
  have hS0 : Gr w w.drew := Gr.drew (Gr.refl _)
  obtain ⟨V, hV⟩ : ∃ V, V = w.drew := ⟨_, rfl⟩
  rw [← hV] at hS0 ⊢
  clear hV
  refine wpAnyZ_take (i := 0) (v := ?v1) rfl (by kernel_rfl) (fun _ _ _ h => h) (by rfl) (fun W hS => ?h1) hS0 ?r1
  case h1 => go_simp; rfl
  simp only [Act.put, List.getElem_toArray, List.getElem_cons_succ, List.getElem_cons_zero, List.setIfInBounds_toArray, List.set_cons_zero, List.set_cons_succ]
  refine wpAnyZ_take (i := 1) (v := ?v2) rfl (by kernel_rfl) (fun _ _ _ h => h) (by rfl) (fun W hS => ?h2) hS0 ?r2
  case h2 => go_simp; rfl
  simp only [Act.put, List.getElem_toArray, List.getElem_cons_succ, List.getElem_cons_zero, List.setIfInBounds_toArray, List.set_cons_zero, List.set_cons_succ]
  refine wpAnyZ_take (i := 2) (v := ?v3) rfl (by kernel_rfl) (fun _ _ _ h => h) (by rfl) (fun W hS => ?h3) hS0 ?r3
  case h3 => go_simp; rfl
  simp only [Act.put, List.getElem_toArray, List.getElem_cons_succ, List.getElem_cons_zero, List.setIfInBounds_toArray, List.set_cons_zero, List.set_cons_succ]
  refine wpAnyZ_take (i := 3) (v := ?v4) rfl (by kernel_rfl) (fun _ _ _ h => h) (by rfl) (fun W hS => ?h4) hS0 ?r4
  case h4 => go_simp; rfl
  simp only [Act.put, List.getElem_toArray, List.getElem_cons_succ, List.getElem_cons_zero, List.setIfInBounds_toArray, List.set_cons_zero, List.set_cons_succ]
  refine wpAnyZ_take (i := 4) (v := ?v5) rfl (by kernel_rfl) (fun _ _ _ h => h) (by rfl) (fun W hS => ?h5) hS0 ?r5
  case h5 => have s2 := (H0.out.gr hS).x2; go_simp; rfl
  simp only [Act.put, List.getElem_toArray, List.getElem_cons_succ, List.getElem_cons_zero, List.setIfInBounds_toArray, List.set_cons_zero, List.set_cons_succ]
  refine wpAnyZ_take (i := 5) (v := ?v6) rfl (by kernel_rfl) (fun _ _ _ h => h) (by rfl) (fun W hS => ?h6) hS0 ?r6
  case h6 => go_simp; rfl
  simp only [Act.put, List.getElem_toArray, List.getElem_cons_succ, List.getElem_cons_zero, List.setIfInBounds_toArray, List.set_cons_zero, List.set_cons_succ]
  refine wpAnyZ_take (i := 6) (v := ?v7) rfl (by kernel_rfl) (fun _ _ _ h => h) (by rfl) (fun W hS => ?h7) hS0 ?r7
  case h7 => go_simp; rfl
  simp only [Act.put, List.getElem_toArray, List.getElem_cons_succ, List.getElem_cons_zero, List.setIfInBounds_toArray, List.set_cons_zero, List.set_cons_succ]
  refine wpAnyZ_take (i := 7) (v := ?v8) rfl (by kernel_rfl) (fun _ _ _ h => h) (by rfl) (fun W hS => ?h8) hS0 ?r8
  case h8 => obtain ⟨a0, a1⟩ := HA1.out W hS; go_simp; rfl
  simp only [Act.put, List.getElem_toArray, List.getElem_cons_succ, List.getElem_cons_zero, List.setIfInBounds_toArray, List.set_cons_zero, List.set_cons_succ]
  refine wpAnyZ_take (i := 8) (v := ?v9) rfl (by kernel_rfl) (fun _ _ _ h => h) (by rfl) (fun W hS => ?h9) hS0 ?r9
  case h9 => go_simp; rfl
  simp only [Act.put, List.getElem_toArray, List.getElem_cons_succ, List.getElem_cons_zero, List.setIfInBounds_toArray, List.set_cons_zero, List.set_cons_succ]
  refine wpAnyZ_take (i := 9) (v := ?v10) rfl (by kernel_rfl) (fun _ _ _ h => h) (by rfl) (fun W hS => ?h10) hS0 ?r10
  case h10 => go_simp; rfl
  simp only [Act.put, List.getElem_toArray, List.getElem_cons_succ, List.getElem_cons_zero, List.setIfInBounds_toArray, List.set_cons_zero, List.set_cons_succ]
  refine wpAnyZ_take (i := 10) (v := ?v11) rfl (by kernel_rfl) (fun _ _ _ h => h) (by rfl) (fun W hS => ?h11) hS0 ?r11
  case h11 => go_simp; rfl
  simp only [Act.put, List.getElem_toArray, List.getElem_cons_succ, List.getElem_cons_zero, List.setIfInBounds_toArray, List.set_cons_zero, List.set_cons_succ]
  refine wpAnyZ_take (i := 11) (v := ?v12) rfl (by kernel_rfl) (fun _ _ _ h => h) (by rfl) (fun W hS => ?h12) hS0 ?r12
  case h12 => go_simp; rfl
  simp only [Act.put, List.getElem_toArray, List.getElem_cons_succ, List.getElem_cons_zero, List.setIfInBounds_toArray, List.set_cons_zero, List.set_cons_succ]
  refine wpAnyZ_take (i := 12) (v := ?v13) rfl (by kernel_rfl) (fun _ _ _ h => h) (by rfl) (fun W hS => ?h13) hS0 ?r13
  case h13 => have s2 := (H0.out.gr hS).x2; go_simp; rfl
  simp only [Act.put, List.getElem_toArray, List.getElem_cons_succ, List.getElem_cons_zero, List.setIfInBounds_toArray, List.set_cons_zero, List.set_cons_succ]
  refine wpAnyZ_take (i := 13) (v := ?v14) rfl (by kernel_rfl) (fun _ _ _ h => h) (by rfl) (fun W hS => ?h14) hS0 ?r14
  case h14 => go_simp; rfl
  simp only [Act.put, List.getElem_toArray, List.getElem_cons_succ, List.getElem_cons_zero, List.setIfInBounds_toArray, List.set_cons_zero, List.set_cons_succ]
  refine wpAnyZ_take (i := 14) (v := ?v15) rfl (by kernel_rfl) (fun _ _ _ h => h) (by rfl) (fun W hS => ?h15) hS0 ?r15
  case h15 => go_simp; rfl
  simp only [Act.put, List.getElem_toArray, List.getElem_cons_succ, List.getElem_cons_zero, List.setIfInBounds_toArray, List.set_cons_zero, List.set_cons_succ]
  refine wpAnyZ_take (i := 15) (v := ?v16) rfl (by kernel_rfl) (fun _ _ _ h => h) (by rfl) (fun W hS => ?h16) hS0 ?r16
  case h16 => go_simp; rfl
  simp only [Act.put, List.getElem_toArray, List.getElem_cons_succ, List.getElem_cons_zero, List.setIfInBounds_toArray, List.set_cons_zero, List.set_cons_succ]
  refine wpAnyZ_take (i := 16) (v := ?v17) rfl (by kernel_rfl) (fun _ _ _ h => h) (by rfl) (fun W hS => ?h17) hS0 ?r17
  case h17 => obtain ⟨a2, a3⟩ := HA0.out W hS; go_simp; rfl
  simp only [Act.put, List.getElem_toArray, List.getElem_cons_succ, List.getElem_cons_zero, List.setIfInBounds_toArray, List.set_cons_zero, List.set_cons_succ]
  refine wpAnyZ_ready (rs := [17, 18]) (by kernel_rfl) (by simp) ?_
  refine AllReadyZ.cons (i := 17) rfl (by kernel_rfl) ?zx71 (AllReadyZ.cons (i := 18) rfl (by kernel_rfl) ?zx72 AllReadyZ.nil)
  ·
   intro K hK
   simp only [List.getElem_toArray, List.getElem_cons_succ, List.getElem_cons_zero]
   go_simp
   obtain ⟨V1, hV1⟩ : ∃ V1, V1 = V.alloc (.cells #[.int .i64 0, .int .i64 0] 30) := ⟨_, rfl⟩
   have kV1 : Gr V V1 := by rw [hV1]; exact Gr.alloc (Gr.refl _) _
   have nb2 : NBl V.heap.size V1 V.heap.size (.int .i64 0) (.int .i64 0) := by rw [hV1]; exact NBl.new _ _ _ _
   rw [← hV1]
   clear hV1
   have g3 := Gr.trans hS0 kV1
   clear kV1
   refine hK.out _ _ (fun hnz => ?zs4) (fun _ => ?zr5)
   case zs4 => exact g3
   clear hK K
   try (simp only [Pu, List.getElem_toArray, List.getElem_cons_succ, List.getElem_cons_zero])
   refine wpAnyZ_ready (rs := [18]) (by kernel_rfl) (by simp) ?_
   refine AllReadyZ.cons (i := 18) rfl (by kernel_rfl) ?zx13 AllReadyZ.nil
   intro K hK
   simp only [List.getElem_toArray, List.getElem_cons_succ, List.getElem_cons_zero]
   go_simp
   obtain ⟨V6, hV6⟩ : ∃ V6, V6 = V1.alloc (.cells #[.int .i64 0, .int .i64 0] 30) := ⟨_, rfl⟩
   have kV6 : Gr V1 V6 := by rw [hV6]; exact Gr.alloc (Gr.refl _) _
   have nb7 : NBl V1.heap.size V6 V1.heap.size (.int .i64 0) (.int .i64 0) := by rw [hV6]; exact NBl.new _ _ _ _
   rw [← hV6]
   clear hV6
   have nb9 := nb2.gr kV6
   have ne10 : V.heap.size ≠ V1.heap.size := Nat.ne_of_lt nb2.lt
   have g8 := Gr.trans g3 kV6
   clear kV6
   refine hK.out _ _ (fun hnz => ?zs11) (fun _ => ?zr12)
   case zs11 => exact g8
   clear hK K
   try (simp only [Pu, List.getElem_toArray, List.getElem_cons_succ, List.getElem_cons_zero])
   refine wpAnyZ_ready (rs := [19]) (by kernel_rfl) (by simp) ?_
   refine AllReadyZ.cons (i := 19) rfl (by kernel_rfl) ?zx24 AllReadyZ.nil
   intro K hK
   simp only [List.getElem_toArray, List.getElem_cons_succ, List.getElem_cons_zero]
   obtain ⟨q14, q15, q16, q17, -, -⟩ := id nb9
   have nb18 := nb9.set (.int .i64 S1) (.int .i64 C1) rfl rfl
   have nb19 := nb7.other (b' := V.heap.size) (.int .i64 S1) (.int .i64 C1) (by first | exact ne10 | exact Ne.symm ne10)
   have g20 := ((g8.setCell (p := ⟨V.heap.size, 0, none⟩) hS0.size (.int .i64 S1)).setCell (p := ⟨V.heap.size, 1, none⟩) hS0.size (.int .i64 C1))
   go_wp2_with fail
   clear q14 q15 q16 q17
   refine hK.out _ _ (fun hnz => ?zs22) (fun _ => ?zr23)
   case zs22 => exact g20
   clear hK K
   try (simp only [Pu, List.getElem_toArray, List.getElem_cons_succ, List.getElem_cons_zero])
   refine wpAnyZ_ready (rs := [20]) (by kernel_rfl) (by simp) ?_
   refine AllReadyZ.cons (i := 20) rfl (by kernel_rfl) ?zx35 AllReadyZ.nil
   intro K hK
   simp only [List.getElem_toArray, List.getElem_cons_succ, List.getElem_cons_zero]
   obtain ⟨q25, q26, q27, q28, -, -⟩ := id nb19
   have nb29 := nb19.set (.int .i64 S0) (.int .i64 C0) rfl rfl
   have nb30 := nb18.other (b' := V1.heap.size) (.int .i64 S0) (.int .i64 C0) (by first | exact ne10 | exact Ne.symm ne10)
   have g31 := ((g20.setCell (p := ⟨V1.heap.size, 0, none⟩) g3.size (.int .i64 S0)).setCell (p := ⟨V1.heap.size, 1, none⟩) g3.size (.int .i64 C0))
   go_wp2_with fail
   clear q25 q26 q27 q28
   refine hK.out _ _ (fun hnz => ?zs33) (fun _ => ?zr34)
   case zs33 => exact absurd rfl hnz
   clear hK K
   try (simp only [Pu, List.getElem_toArray, List.getElem_cons_succ, List.getElem_cons_zero])
   refine wpAnyZ_done (by kernel_rfl) ?_ _
   go_wp2_with fail
   go_meet
   exact ⟨_, _, rfl, rfl, nb30.c0, nb29.c0, nb30.lt, nb29.lt, g31⟩
  ·
   intro K hK
   simp only [List.getElem_toArray, List.getElem_cons_succ, List.getElem_cons_zero]
   go_simp
   obtain ⟨V36, hV36⟩ : ∃ V36, V36 = V.alloc (.cells #[.int .i64 0, .int .i64 0] 30) := ⟨_, rfl⟩
   have kV36 : Gr V V36 := by rw [hV36]; exact Gr.alloc (Gr.refl _) _
   have nb37 : NBl V.heap.size V36 V.heap.size (.int .i64 0) (.int .i64 0) := by rw [hV36]; exact NBl.new _ _ _ _
   rw [← hV36]
   clear hV36
   have g38 := Gr.trans hS0 kV36
   clear kV36
   refine hK.out _ _ (fun hnz => ?zs39) (fun _ => ?zr40)
   case zs39 => exact g38
   clear hK K
   try (simp only [Pu, List.getElem_toArray, List.getElem_cons_succ, List.getElem_cons_zero])
   refine wpAnyZ_ready (rs := [17]) (by kernel_rfl) (by simp) ?_
   refine AllReadyZ.cons (i := 17) rfl (by kernel_rfl) ?zx48 AllReadyZ.nil
   intro K hK
   simp only [List.getElem_toArray, List.getElem_cons_succ, List.getElem_cons_zero]
   go_simp
   obtain ⟨V41, hV41⟩ : ∃ V41, V41 = V36.alloc (.cells #[.int .i64 0, .int .i64 0] 30) := ⟨_, rfl⟩
   have kV41 : Gr V36 V41 := by rw [hV41]; exact Gr.alloc (Gr.refl _) _
   have nb42 : NBl V36.heap.size V41 V36.heap.size (.int .i64 0) (.int .i64 0) := by rw [hV41]; exact NBl.new _ _ _ _
   rw [← hV41]
   clear hV41
   have nb44 := nb37.gr kV41
   have ne45 : V.heap.size ≠ V36.heap.size := Nat.ne_of_lt nb37.lt
   have g43 := Gr.trans g38 kV41
   clear kV41
   refine hK.out _ _ (fun hnz => ?zs46) (fun _ => ?zr47)
   case zs46 => exact g43
   clear hK K
   try (simp only [Pu, List.getElem_toArray, List.getElem_cons_succ, List.getElem_cons_zero])
   refine wpAnyZ_ready (rs := [19]) (by kernel_rfl) (by simp) ?_
   refine AllReadyZ.cons (i := 19) rfl (by kernel_rfl) ?zx59 AllReadyZ.nil
   intro K hK
   simp only [List.getElem_toArray, List.getElem_cons_succ, List.getElem_cons_zero]
   obtain ⟨q49, q50, q51, q52, -, -⟩ := id nb42
   have nb53 := nb42.set (.int .i64 S1) (.int .i64 C1) rfl rfl
   have nb54 := nb44.other (b' := V36.heap.size) (.int .i64 S1) (.int .i64 C1) (by first | exact ne45 | exact Ne.symm ne45)
   have g55 := ((g43.setCell (p := ⟨V36.heap.size, 0, none⟩) g38.size (.int .i64 S1)).setCell (p := ⟨V36.heap.size, 1, none⟩) g38.size (.int .i64 C1))
   go_wp2_with fail
   clear q49 q50 q51 q52
   refine hK.out _ _ (fun hnz => ?zs57) (fun _ => ?zr58)
   case zs57 => exact g55
   clear hK K
   try (simp only [Pu, List.getElem_toArray, List.getElem_cons_succ, List.getElem_cons_zero])
   refine wpAnyZ_ready (rs := [20]) (by kernel_rfl) (by simp) ?_
   refine AllReadyZ.cons (i := 20) rfl (by kernel_rfl) ?zx70 AllReadyZ.nil
   intro K hK
   simp only [List.getElem_toArray, List.getElem_cons_succ, List.getElem_cons_zero]
   obtain ⟨q60, q61, q62, q63, -, -⟩ := id nb54
   have nb64 := nb54.set (.int .i64 S0) (.int .i64 C0) rfl rfl
   have nb65 := nb53.other (b' := V.heap.size) (.int .i64 S0) (.int .i64 C0) (by first | exact ne45 | exact Ne.symm ne45)
   have g66 := ((g55.setCell (p := ⟨V.heap.size, 0, none⟩) hS0.size (.int .i64 S0)).setCell (p := ⟨V.heap.size, 1, none⟩) hS0.size (.int .i64 C0))
   go_wp2_with fail
   clear q60 q61 q62 q63
   refine hK.out _ _ (fun hnz => ?zs68) (fun _ => ?zr69)
   case zs68 => exact absurd rfl hnz
   clear hK K
   try (simp only [Pu, List.getElem_toArray, List.getElem_cons_succ, List.getElem_cons_zero])
   refine wpAnyZ_done (by kernel_rfl) ?_ _
   go_wp2_with fail
   go_meet
   exact ⟨_, _, rfl, rfl, nb65.c0, nb64.c0, nb65.lt, nb64.lt, g66⟩
 case rest =>
  obtain ⟨p7, p8, rfl, rfl, c7, c8, l7, l8, hgw⟩ := hcut
  have HGW := Lib.hid hgw
  clear hgw
  go_wp2_with (go_at_call 28; refine (HAL.out _).mono ?_; rintro e w1 ⟨rfl, rfl⟩)
  try simp only [hw1b]
  have HWB := Lib.hid hw1b
  clear hw1 hw1b h01 hS0n
  go_loopw [10, 39] (fun v k wr => ∃ q : Nat, q ≤ N ∧ k = .int .i64 q ∧ Gr wc wr ∧ wr.ownsRow wc.heap.size 47 2 v q (vcells (L.take q))) (fun _ k _ => N - (intOf k).toNat)
  case atStart => exact ⟨0, Nat.zero_le _, rfl, Gr.refl _, World.ownsRow_nil _ _ _ _⟩
  case round =>
   obtain ⟨q, hq, rfl, hgr, hown⟩ := hrel
   have d7 := (Below.cell hgr (p := ⟨p7, 0, none⟩) l7).trans c7
   have d8 := (Below.cell hgr (p := ⟨p8, 0, none⟩) l8).trans c8
   have hz := hgr.size
   by_cases hlt : q < N
   ·
    have hlti : (q : Int) < (N : Int) := by omega
    have hql : q < L.length := by rw [HL.out.1]; exact hlt
    have hqs : q * S0 ≤ S1 := HI.out.2.2.2.2.1 q hlt
    have hqsi : (q : Int) * (S0 : Int) ≤ (S1 : Int) := by rw [← Int.natCast_mul]; exact Int.ofNat_le.2 hqs
    have hqs0 : 0 ≤ (q : Int) * (S0 : Int) := by rw [← Int.natCast_mul]; omega
    obtain ⟨x, hx⟩ : ∃ x : Int, x = (q : Int) * (S0 : Int) := ⟨_, rfl⟩
    obtain ⟨y, hy⟩ : ∃ y : Int, y = T + (q : Int) * (S0 : Int) := ⟨_, rfl⟩
    have hw3 : IntKind.i64.wrap ((q : Int) * (S0 : Int)) = x := by rw [← hx]; exact IntWalk.i64_in _ (by omega)
    have hw4 : IntKind.i64.wrap (T + x) = y := by rw [hy, ← hx]; exact IntWalk.i64_in _ (by omega)
    have hy0 : 0 ≤ y := by omega
    have hy1 : y ≤ 4611686018427387904 := by omega
    obtain ⟨u, hu⟩ : ∃ u, u = L[q] := ⟨_, rfl⟩
    have huh : hasV m D j y = u := by rw [hu, HL.out.2.1 q hql, hy]
    have HT := Lib.hid (show L.take (q + 1) = L.take q ++ [u] by rw [List.take_succ_eq_append_getElem hql, hu])
    have HH : Hid (∀ W, Gr w W → Calls Try.prog 29 #[.pointer (some ⟨X, 0, none⟩), .int .i64 j, .int .i64 y] W (RetVl u W)) := Lib.hid fun W gW => by rw [← huh]; exact HHAS.out W gW y hy0 hy1
    have HY := Lib.hid (And.intro hy0 hy1)
    have HGR := Lib.hid hgr
    have HOW := Lib.hid hown
    clear hqs hqsi hqs0 hx hy huh hu hql hgr hown hy0 hy1
    go_wp2_with (first | (go_at_call 29; refine (HH.out _ (HGW.out.trans HGR.out)).mono ?_; rintro e w1 ⟨rfl, g1⟩; have HG1 := Lib.hid (HGR.out.trans g1); have hown1 := own_gr HOW.out g1; have hrx := Rv.new (W := w1) rfl 47 [u]; have hv0w := own_gr hown1 (Gr.alloc (Gr.refl w1) (.cells (vcells [u]).toArray 47)); have hvl := hown1.lt; have hz1 := g1.size; clear g1) | (at_builtin; refine wpList_append_rd rfl (.tmp 42) (.tmp 53) 41 rfl wc.heap.size 47 v0 _ 2 16 Try.underlying41 hv0 vz0 vz1 vz2 rfl (by decide) _ _ _ rfl hv0w (some ⟨w1.heap.size, 0, none⟩) 1 _ (vcells [u]) rfl hrx (vcells_one _) (by unfold maxLen; omega) (by omega) (by simp; omega) ?_; intro v' w2 hown2 hgr2 hat2))
    have hg2 : Gr wc w2 := Gr.grown (Gr.alloc HG1.out _) hgr2 (fun k hk => (hvl k hk).1)
    have HO2 := Lib.hid hown2
    clear hv0w hvl hgr2 hat2 hrx hown1 hown2
    go_wp2
    go_roundw
    case rel => exact ⟨q + 1, by omega, by go_num, hg2, by rw [HT.out]; simpa [vcells_append] using HO2.out⟩
    case measure => simp [intOf]; omega
   ·
    have hqN : q = N := by omega
    subst hqN
    obtain ⟨A', c', hv⟩ := own_form hown
    subst hv
    have hrv : Rv wr A' L := by
     have := Rd.own hown
     rw [← HL.out.1, List.take_length] at this
     exact this
    have HPUT : Hid (∀ W, Gr wr W → Calls Try.prog 62 #[.int .i64 ag, .int .i64 xf, .slice A' q c'] W fun e w' => e = .returned (.agg #[.bool vo, .int .i64 vn]) ∧ Gr W w') := Lib.hid fun W gW => by
     have := HPU.out W A' c' L HLm.out (hrv.gr gW)
     rw [← HPV.out, HL.out.1] at this
     exact this
    have HW : Hid (FiM wr X F P M R room n ag xf b c m g d D ∧ Gr w wr) := Lib.hid ⟨H0.out.gr (HGW.out.trans hgr), HGW.out.trans hgr⟩
    clear hown hrv hgr d7 d8 c7 c8 hq hlt
    go_upto_region 9 with (fail)
    go_cut [12] from 40 to 74 (fun s12 wx => ∃ p, s12 = .pointer (some ⟨p, 0, none⟩) ∧ wx.cell? ⟨p, 0, none⟩ = some (.bool vo) ∧ wx.cell? ⟨p, 1, none⟩ = some (.int .i64 vn) ∧ p < wx.heap.size ∧ Gr wr wx)
    case first =>
     refine wp_region_Z 13 (Gr wr) (by kernel_rfl) ?_
     have hS0 : Gr wr wr.drew := Gr.drew (Gr.refl _)
     obtain ⟨V, hV⟩ : ∃ V, V = wr.drew := ⟨_, rfl⟩
     rw [← hV] at hS0 ⊢
     clear hV
     refine wpAnyZ_take (i := 0) (v := ?v18) rfl (by kernel_rfl) (fun _ _ _ h => h) (by rfl) (fun W hS => ?h18) hS0 ?r18
     case h18 => go_simp; rfl
     simp only [Act.put, List.getElem_toArray, List.getElem_cons_succ, List.getElem_cons_zero, List.setIfInBounds_toArray, List.set_cons_zero, List.set_cons_succ]
     refine wpAnyZ_take (i := 1) (v := ?v19) rfl (by kernel_rfl) (fun _ _ _ h => h) (by rfl) (fun W hS => ?h19) hS0 ?r19
     case h19 => go_simp; rfl
     simp only [Act.put, List.getElem_toArray, List.getElem_cons_succ, List.getElem_cons_zero, List.setIfInBounds_toArray, List.set_cons_zero, List.set_cons_succ]
     refine wpAnyZ_take (i := 2) (v := ?v20) rfl (by kernel_rfl) (fun _ _ _ h => h) (by rfl) (fun W hS => ?h20) hS0 ?r20
     case h20 => go_simp; rfl
     simp only [Act.put, List.getElem_toArray, List.getElem_cons_succ, List.getElem_cons_zero, List.setIfInBounds_toArray, List.set_cons_zero, List.set_cons_succ]
     refine wpAnyZ_take (i := 3) (v := ?v21) rfl (by kernel_rfl) (fun _ _ _ h => h) (by rfl) (fun W hS => ?h21) hS0 ?r21
     case h21 => go_simp; rfl
     simp only [Act.put, List.getElem_toArray, List.getElem_cons_succ, List.getElem_cons_zero, List.setIfInBounds_toArray, List.set_cons_zero, List.set_cons_succ]
     refine wpAnyZ_take (i := 4) (v := ?v22) rfl (by kernel_rfl) (fun _ _ _ h => h) (by rfl) (fun W hS => ?h22) hS0 ?r22
     case h22 => have s0 := (HW.out.1.gr hS).x0; have s1 := (HW.out.1.gr hS).x1; go_simp; rfl
     simp only [Act.put, List.getElem_toArray, List.getElem_cons_succ, List.getElem_cons_zero, List.setIfInBounds_toArray, List.set_cons_zero, List.set_cons_succ]
     refine wpAnyZ_take (i := 5) (v := ?v23) rfl (by kernel_rfl) (fun _ _ _ h => h) (by rfl) (fun W hS => ?h23) hS0 ?r23
     case h23 => go_simp; rfl
     simp only [Act.put, List.getElem_toArray, List.getElem_cons_succ, List.getElem_cons_zero, List.setIfInBounds_toArray, List.set_cons_zero, List.set_cons_succ]
     refine wpAnyZ_take (i := 6) (v := ?v24) rfl (by kernel_rfl) (fun _ _ _ h => h) (by rfl) (fun W hS => ?h24) hS0 ?r24
     case h24 => go_simp; rfl
     simp only [Act.put, List.getElem_toArray, List.getElem_cons_succ, List.getElem_cons_zero, List.setIfInBounds_toArray, List.set_cons_zero, List.set_cons_succ]
     refine wpAnyZ_take (i := 7) (v := ?v25) rfl (by kernel_rfl) (fun _ _ _ h => h) (by rfl) (fun W hS => ?h25) hS0 ?r25
     case h25 => go_simp; rfl
     simp only [Act.put, List.getElem_toArray, List.getElem_cons_succ, List.getElem_cons_zero, List.setIfInBounds_toArray, List.set_cons_zero, List.set_cons_succ]
     refine wpAnyZ_take (i := 8) (v := ?v26) rfl (by kernel_rfl) (fun _ _ _ h => h) (by rfl) (fun W hS => ?h26) hS0 ?r26
     case h26 => go_simp; rfl
     simp only [Act.put, List.getElem_toArray, List.getElem_cons_succ, List.getElem_cons_zero, List.setIfInBounds_toArray, List.set_cons_zero, List.set_cons_succ]
     refine wpAnyZ_take (i := 9) (v := ?v27) rfl (by kernel_rfl) (fun _ _ _ h => h) (by rfl) (fun W hS => ?h27) hS0 ?r27
     case h27 => have s0 := (HW.out.1.gr hS).x0; have s1 := (HW.out.1.gr hS).x1; go_simp; rfl
     simp only [Act.put, List.getElem_toArray, List.getElem_cons_succ, List.getElem_cons_zero, List.setIfInBounds_toArray, List.set_cons_zero, List.set_cons_succ]
     refine wpAnyZ_take (i := 10) (v := ?v28) rfl (by kernel_rfl) (fun _ _ _ h => h) (by rfl) (fun W hS => ?h28) hS0 ?r28
     case h28 => go_simp; rfl
     simp only [Act.put, List.getElem_toArray, List.getElem_cons_succ, List.getElem_cons_zero, List.setIfInBounds_toArray, List.set_cons_zero, List.set_cons_succ]
     refine wpAnyZ_ready (rs := [11, 12]) (by kernel_rfl) (by simp) ?_
     refine AllReadyZ.cons (i := 11) rfl (by kernel_rfl) ?zx116 (AllReadyZ.cons (i := 12) rfl (by kernel_rfl) ?zx117 AllReadyZ.nil)
     ·
      intro K hK
      simp only [List.getElem_toArray, List.getElem_cons_succ, List.getElem_cons_zero]
      go_simp
      refine (HPUT.out _ hS0).mono ?_
      rintro e V73 ⟨rfl, kV73⟩
      have g74 := Gr.trans hS0 kV73
      clear kV73
      go_wp2_with fail
      refine hK.out _ _ (fun hnz => ?zs75) (fun _ => ?zr76)
      case zs75 => exact g74
      clear hK K
      try (simp only [Pu, List.getElem_toArray, List.getElem_cons_succ, List.getElem_cons_zero])
      refine wpAnyZ_ready (rs := [12]) (by kernel_rfl) (by simp) ?_
      refine AllReadyZ.cons (i := 12) rfl (by kernel_rfl) ?zx82 AllReadyZ.nil
      intro K hK
      simp only [List.getElem_toArray, List.getElem_cons_succ, List.getElem_cons_zero]
      go_simp
      obtain ⟨V77, hV77⟩ : ∃ V77, V77 = V73.alloc (.cells #[.bool false, .int .i64 0] 47) := ⟨_, rfl⟩
      have kV77 : Gr V73 V77 := by rw [hV77]; exact Gr.alloc (Gr.refl _) _
      have nb78 : NBl V73.heap.size V77 V73.heap.size (.bool false) (.int .i64 0) := by rw [hV77]; exact NBl.new _ _ _ _
      rw [← hV77]
      clear hV77
      have g79 := Gr.trans g74 kV77
      clear kV77
      refine hK.out _ _ (fun hnz => ?zs80) (fun _ => ?zr81)
      case zs80 => exact g79
      clear hK K
      try (simp only [Pu, List.getElem_toArray, List.getElem_cons_succ, List.getElem_cons_zero])
      refine wpAnyZ_ready (rs := [13]) (by kernel_rfl) (by simp) ?_
      refine AllReadyZ.cons (i := 13) rfl (by kernel_rfl) ?zx93 AllReadyZ.nil
      intro K hK
      simp only [List.getElem_toArray, List.getElem_cons_succ, List.getElem_cons_zero]
      obtain ⟨q83, q84, q85, q86, -, -⟩ := id nb78
      have nb87 := nb78.set (.bool vo) (.int .i64 vn) rfl rfl
      have g89 := ((g79.setCell (p := ⟨V73.heap.size, 0, none⟩) g74.size (.bool vo)).setCell (p := ⟨V73.heap.size, 1, none⟩) g74.size (.int .i64 vn))
      go_wp2_with fail
      clear q83 q84 q85 q86
      refine hK.out _ _ (fun hnz => ?zs91) (fun _ => ?zr92)
      case zs91 => exact absurd rfl hnz
      clear hK K
      try (simp only [Pu, List.getElem_toArray, List.getElem_cons_succ, List.getElem_cons_zero])
      refine wpAnyZ_done (by kernel_rfl) ?_ _
      go_wp2_with fail
      go_meet
      exact ⟨_, rfl, nb87.c0, nb87.c1, nb87.lt, g89⟩
     ·
      intro K hK
      simp only [List.getElem_toArray, List.getElem_cons_succ, List.getElem_cons_zero]
      go_simp
      obtain ⟨V94, hV94⟩ : ∃ V94, V94 = V.alloc (.cells #[.bool false, .int .i64 0] 47) := ⟨_, rfl⟩
      have kV94 : Gr V V94 := by rw [hV94]; exact Gr.alloc (Gr.refl _) _
      have nb95 : NBl V.heap.size V94 V.heap.size (.bool false) (.int .i64 0) := by rw [hV94]; exact NBl.new _ _ _ _
      rw [← hV94]
      clear hV94
      have g96 := Gr.trans hS0 kV94
      clear kV94
      refine hK.out _ _ (fun hnz => ?zs97) (fun _ => ?zr98)
      case zs97 => exact g96
      clear hK K
      try (simp only [Pu, List.getElem_toArray, List.getElem_cons_succ, List.getElem_cons_zero])
      refine wpAnyZ_ready (rs := [11]) (by kernel_rfl) (by simp) ?_
      refine AllReadyZ.cons (i := 11) rfl (by kernel_rfl) ?zx104 AllReadyZ.nil
      intro K hK
      simp only [List.getElem_toArray, List.getElem_cons_succ, List.getElem_cons_zero]
      go_simp
      refine (HPUT.out _ g96).mono ?_
      rintro e V99 ⟨rfl, kV99⟩
      have nb101 := nb95.gr kV99
      have g100 := Gr.trans g96 kV99
      clear kV99
      go_wp2_with fail
      refine hK.out _ _ (fun hnz => ?zs102) (fun _ => ?zr103)
      case zs102 => exact g100
      clear hK K
      try (simp only [Pu, List.getElem_toArray, List.getElem_cons_succ, List.getElem_cons_zero])
      refine wpAnyZ_ready (rs := [13]) (by kernel_rfl) (by simp) ?_
      refine AllReadyZ.cons (i := 13) rfl (by kernel_rfl) ?zx115 AllReadyZ.nil
      intro K hK
      simp only [List.getElem_toArray, List.getElem_cons_succ, List.getElem_cons_zero]
      obtain ⟨q105, q106, q107, q108, -, -⟩ := id nb101
      have nb109 := nb101.set (.bool vo) (.int .i64 vn) rfl rfl
      have g111 := ((g100.setCell (p := ⟨V.heap.size, 0, none⟩) hS0.size (.bool vo)).setCell (p := ⟨V.heap.size, 1, none⟩) hS0.size (.int .i64 vn))
      go_wp2_with fail
      clear q105 q106 q107 q108
      refine hK.out _ _ (fun hnz => ?zs113) (fun _ => ?zr114)
      case zs113 => exact absurd rfl hnz
      clear hK K
      try (simp only [Pu, List.getElem_toArray, List.getElem_cons_succ, List.getElem_cons_zero])
      refine wpAnyZ_done (by kernel_rfl) ?_ _
      go_wp2_with fail
      go_meet
      exact ⟨_, rfl, nb109.c0, nb109.c1, nb109.lt, g111⟩
    case rest =>
     obtain ⟨p, rfl, k0, k1, kl, hgx⟩ := hcut
     have HGX := Lib.hid (HW.out.2.trans hgx)
     have HFX := Lib.hid (HW.out.1.gr hgx)
     have HNO : Hid (o = none → ∃ R' n', n' ≤ n + 3 ∧ FiM wc X F P M R' room n' ag xf b c m g d (o.getD D) ∧ Kp (Tcg P M R g) w wc ∧ ∀ j, R' = some j → R = some j ∨ w.heap.size ≤ j) := Lib.hid (fun e => ⟨R, n, by omega, by rw [e]; exact HFX.out, Kp.of_gr _ HGX.out, fun _ e => .inl e⟩)
     cases vo with
     | false =>
      have HN := Lib.hid (show o = none by rw [HOO.out, if_neg (fun e => by cases e.1)])
      clear hgx
      go_wp2
      go_ret
      exact ⟨ret_b (by rw [HN.out]; rfl), HNO.out HN.out⟩
     | true =>
      by_cases hT1 : T < 1
      ·
       have HN := Lib.hid (show o = none by rw [HOO.out, if_neg (fun e => by have := e.2; omega)])
       clear hgx
       go_wp2
       go_ret
       exact ⟨ret_b (by rw [HN.out]; rfl), HNO.out HN.out⟩
      ·
       have HN := Lib.hid (show o = some (layS m D i T vn) by rw [HOO.out, if_pos ⟨rfl, by omega⟩])
       clear hgx
       go_wp2_with (go_at_call 47; refine (wwrites_any i HI.out.1 T vn hT0 (by omega) HI.out.2.2.2.1 _ HFX.out).mono ?_; rintro e w5 ⟨rfl, R', hf, hk, hr⟩; have H5 := Lib.hid (And.intro hf (And.intro hk hr)); clear hf hk hr)
       go_ret
       refine ⟨ret_b (by rw [HN.out]; rfl), R', n + 3, Nat.le_refl _, by rw [HN.out]; exact H5.out.1, (Kp.of_gr _ HGX.out).trans H5.out.2.1 (fun _ _ e => e), fun z hz => ?_⟩
       rcases H5.out.2.2 z hz with e | e
       ·
        exact .inl e
       ·
        exact .inr (Nat.le_trans HGX.out.size e)
end Go.Proofs.Ytoncapkmaeghfaa
