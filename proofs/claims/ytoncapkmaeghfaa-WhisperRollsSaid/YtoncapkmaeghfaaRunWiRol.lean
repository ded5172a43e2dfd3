/- The law WhisperRolls of chapter 7, walked. -/
import Derived.Test.YtoncapkmaeghfaaRunAgPlain
import Derived.Test.YtoncapkmaeghfaaRunWiKnP
import Derived.Test.YtoncapkmaeghfaaRunWhSpec
namespace Go.Proofs.Ytoncapkmaeghfaa
set_option linter.unusedVariables false
set_option linter.unusedSimpArgs false
open Go.RowKit

theorem info_i64 : (Try.prog.info? 3).map (fun i => (i.zero, i.size, i.bytes)) = some (some (.int .i64 0), 1, 8) := by kernel_rfl
/-- cells of a row of numbers. -/
def icn (l : List Int) : List Value := l.map fun z => .int .i64 z
theorem icn_len (l : List Int) : (icn l).length = l.length * 1 := by simp [icn]
theorem icn_one (l : List Int) : ∀ u ∈ icn l, u.oneCell' = true := by
 intro u hu
 simp only [icn, List.mem_map] at hu
 obtain ⟨z, _, rfl⟩ := hu
 rfl
/-- a row of numbers that came in. -/
def Rn (w : World) (A : Option Addr) (l : List Int) : Prop := Rd w 1 A l.length (icn l)
theorem Rn.gr {w w' : World} {A : Option Addr} {l : List Int} (h : Rn w A l) (g : Gr w w') : Rn w' A l := Rd.gr h g
theorem Rn.at {w : World} {A : Option Addr} {l : List Int} (h : Rn w A l) {k : Nat} (hk : k < l.length) : ∃ ad : Addr, A = some ad ∧ ad.block < w.heap.size ∧ w.cell? (ad.add k) = some (.int .i64 l[k]) := by
 obtain ⟨ad, e, hb, hc⟩ := h.2 (by omega)
 exact ⟨ad, e, hb, hc _ _ (by simp [icn, hk])⟩
theorem RoI.of {kd : Nat} {ns ms : List Int} {j : Nat} {D : List UInt8} (h : RoI kd ns j D) (ht : ns.take j = ms.take j) (hj : j ≤ ns.length) (hj2 : j ≤ ms.length) : RoI kd ms j D := by
 have e : ∀ k, k < j → ms.getD k 0 = ns.getD k 0 := fun k hk => by
  have h1 : (ns.take j)[k]? = (ms.take j)[k]? := by rw [ht]
  rw [List.getElem?_take, List.getElem?_take, if_pos hk, if_pos hk] at h1
  rw [List.getD_eq_getElem?_getD, List.getD_eq_getElem?_getD, h1]
 refine ⟨h.ok, fun k hk => ?_, fun h0 => by rw [h.s1 h0, ht]⟩
 rw [h.s0 k hk]
 by_cases hkj : k < j
 ·
  rw [if_pos hkj, if_pos hkj, e k hkj]
 ·
  rw [if_neg hkj, if_neg hkj]
/-- blocks that hold numbers of 64 bits are not the file's bytes. -/
theorem FsM.withY {Y Y' : Nat → Prop} {w : World} {F P M : Nat} {R : Option Nat} {room : Int} {n : Nat} {D : List UInt8} (h : FsM Y w F P M R room n (some D)) (h0 : 0 < D.length) (h2 : ∀ k, Y' k → k < w.heap.size) (hc : ∀ k, Y' k → ∃ z, w.cell? ⟨k, 0, none⟩ = some (.int .i64 z)) : FsM Y' w F P M R room n (some D) := by
 refine ⟨h.lf, h.lp, h.lm, h.nfp, h.nfm, h.npm, h.f0, h.f1, h.f2, h.p0, h.p1, h.z0, h.z1, h.rr, h2, ?_⟩
 obtain ⟨clk, born, q, c, hb, hcc, hr, hq, hx⟩ := h.mp
 refine ⟨clk, born, q, c, hb, hcc, hr, hq, hx.1, hx.2.1, hx.2.2.1, fun e => ?_⟩
 obtain ⟨z, hz⟩ := hc q e
 obtain ⟨ad, e2, -, hcell⟩ := hr.at h0
 injection e2 with e2
 subst e2
 have : (⟨q, 0, none⟩ : Addr).add 0 = ⟨q, 0, none⟩ := rfl
 rw [this, hz] at hcell
 injection hcell with hcell
 injection hcell with hk
 cases hk
theorem own_first {w : World} {base n k : Nat} {e : TypeId} {v : Value} {l : List Int} (h : w.ownsRow base e 1 v n (icn l)) (hk : v.ownBlock = some k) (hl : (icn l).length = n * 1) (h0 : 0 < l.length ∨ 0 < n) : ∃ z, w.cell? ⟨k, 0, none⟩ = some (.int .i64 z) := by
 obtain ⟨h1, ⟨hv, hn⟩ | ⟨g', cap, cur, hv, hb, hh, h2, h3, h4, h5⟩⟩ := h
 ·
  rw [hv] at hk; cases hk
 ·
  rw [hv] at hk
  injection hk with hk
  subst hk
  rw [icn_len] at hl
  have hl0 : 0 < l.length := by omega
  have hx : (icn l)[0]? = some (.int .i64 l[0]) := by simp [icn, hl0]
  refine ⟨l[0], ?_⟩
  rw [← h5] at hx
  rw [List.getElem?_take] at hx
  split at hx
  ·
   simp only [World.cell?, hh]
   simpa using hx
  ·
   cases hx
theorem roll_fet (D : List UInt8) : fetV rM D 1030 995 1005 = [seenS rM D 1 1000] := by kernel_rfl
theorem roll_st : startS rM (whichS rM (1030 - frS rM 1030 995)) (frS rM 1030 995) = 1000 := by kernel_rfl
theorem roll_step : ((stpS rM (whichS rM (1030 - frS rM 1030 995)) : Nat) : Int) = 10 := by kernel_rfl
/-- what one Update does. -/
theorem roll_upd {kd : Nat} (h1 : 1 ≤ kd) (h5 : kd ≤ 5) {ns : List Int} {j : Nat} {D : List UInt8} (h : RoI kd ns j D) (hj : j < ns.length) (h10 : ns.length ≤ 10) (hb : Bnd (ns.take j)) (hn : -1099511627776 ≤ ns[j] ∧ ns[j] ≤ 1099511627776) :
  ∃ D', updS kd 0 rM (1000 + (j : Int)) [(1000 + (j : Int), ns[j])] (0, D) = (1, D') ∧ RoI kd ns (j + 1) D' ∧ Bnd (ns.take (j + 1)) := by
 have hb1 : Bnd (ns.take (j + 1)) := fun z hz => by
  rw [List.take_succ_eq_append_getElem hj, List.mem_append, List.mem_singleton] at hz
  rcases hz with e | e
  ·
   exact hb z e
  ·
   rw [e]; exact hn
 have hl : (ns.take (j + 1)).length = j + 1 := by rw [List.length_take]; omega
 have ht : ns.take j = (ns.take (j + 1)).take j := by rw [List.take_take, Nat.min_eq_left (by omega)]
 obtain ⟨D', e, hI⟩ := RoI.step h1 h5 (h.of ht (by omega) (by omega)) (by omega) (by omega) hb1
 have eg : (ns.take (j + 1)).getD j 0 = ns[j] := by
  rw [List.getD_eq_getElem?_getD, List.getElem?_take, if_pos (by omega), List.getElem?_eq_getElem hj]; rfl
 rw [eg] at e
 refine ⟨D', ?_, hI.of (by rw [List.take_take, Nat.min_self]) (by omega) (by omega), hb1⟩
 simp only [updS, e]
set_option maxRecDepth 100000 in
set_option maxHeartbeats 12800000 in
theorem rolls_start (kd : Int) (A : Option Addr) (c : Nat) (ns : List Int) (w : World) (hr : Rn w A ns) (h : kd < 1 ∨ 5 < kd ∨ ns.length < 1 ∨ 10 < ns.length) : Calls Try.prog 4 #[.int .i64 kd, .slice A ns.length c] w fun e w' => e = .returned (.bool true) ∧ Gr w w' := by
 go_enter Try.func4, Try.ntmps4
 by_cases h1 : kd < 1
 ·
  go_wp2
  go_ret
  exact ⟨rfl, Gr.refl _⟩
 by_cases h5 : 5 < kd
 ·
  go_wp2
  go_ret
  exact ⟨rfl, Gr.refl _⟩
 by_cases hl : (ns.length : Int) < 1
 ·
  go_wp2
  go_ret
  exact ⟨rfl, Gr.refl _⟩
 have hl2 : (10 : Int) < (ns.length : Int) := by omega
 go_wp2
 go_ret
 exact ⟨rfl, Gr.refl _⟩
set_option maxRecDepth 100000 in
set_option maxHeartbeats 12800000 in
theorem rolls_any (kd : Nat) (A : Option Addr) (c : Nat) (ns : List Int) (w : World) (hr : Rn w A ns) (h1 : 1 ≤ kd) (h5 : kd ≤ 5) (hl : 1 ≤ ns.length) (hl2 : ns.length ≤ 10) : Calls Try.prog 4 #[.int .i64 kd, .slice A ns.length c] w fun e w' => e = .returned (.bool true) ∧ Gr w w' := by
 obtain ⟨i0, hi0, hy0, hy1, hy2⟩ := info_parts info_i64
 have hkd1 : ¬ (kd : Int) < 1 := by omega
 have hkd5 : ¬ (5 : Int) < (kd : Int) := by omega
 have hla : ¬ (ns.length : Int) < 1 := by omega
 have hlb : ¬ (10 : Int) < (ns.length : Int) := by omega
 obtain ⟨V, hV⟩ : ∃ V, V = (w.alloc (.cells #[.int .i64 1, .int .i64 20, .int .i64 10, .int .i64 6] 30)).alloc (.cells #[.int .i64 kd, .int .i64 0, .slice (some ⟨w.heap.size, 0, none⟩) 2 2] 24) := ⟨_, rfl⟩
 have gV : Gr w V := by rw [hV]; exact Gr.alloc (Gr.alloc (Gr.refl w) _) _
 have hzV : w.heap.size + 1 < V.heap.size := by rw [hV]; simp
 have c0 : V.cell? ⟨w.heap.size + 1, 0, none⟩ = some (.int .i64 kd) := by rw [hV]; go_simp
 have c1 : V.cell? ⟨w.heap.size + 1, 1, none⟩ = some (.int .i64 0) := by rw [hV]; go_simp
 have c2 : V.cell? ⟨w.heap.size + 1, 2, none⟩ = some (.slice (some ⟨w.heap.size, 0, none⟩) 2 2) := by rw [hV]; go_simp
 have hri : Ri V (some ⟨w.heap.size, 0, none⟩) (ints rM) := by
  rw [hV, show ints rM = [(1, 20), (10, 6)] from by kernel_rfl]
  exact (Ri.lit2 w 1 20 10 6 _).gr (Gr.alloc (Gr.refl _) _)
 have HV := Lib.hid hV
 have HGV := Lib.hid gV
 have HRI := Lib.hid hri
 have HR := Lib.hid hr
 have HKD := Lib.hid (And.intro h1 h5)
 clear hV gV hri hr
 go_enter Try.func4, Try.ntmps4
 go_upto_region 4 with (fail)
 rw [← HV.out]
 clear HV
 go_upto_region 5 with (go_at_call 8; refine (vnew_any 65536 (by omega) (by omega) _).mono ?_; rintro e w1 ⟨rfl, hf1, g1⟩; have H1 := Lib.hid (And.intro hf1 g1); have z0 := (Below.cell g1 (p := ⟨w.heap.size + 1, 0, none⟩) hzV).trans c0; have z1 := (Below.cell g1 (p := ⟨w.heap.size + 1, 1, none⟩) hzV).trans c1; have z2 := (Below.cell g1 (p := ⟨w.heap.size + 1, 2, none⟩) hzV).trans c2; clear hf1 g1)
 obtain ⟨F, hF⟩ : ∃ F, F = V.heap.size + 3 := ⟨_, rfl⟩
 obtain ⟨P, hP⟩ : ∃ P, P = V.heap.size + 1 := ⟨_, rfl⟩
 obtain ⟨M, hM⟩ : ∃ M, M = V.heap.size + 2 := ⟨_, rfl⟩
 rw [← hF, ← hP, ← hM] at H1
 rw [← hF]
 have hsz := HGV.out.size
 have HPM := Lib.hid (show w.heap.size ≤ P ∧ w.heap.size ≤ M by omega)
 have HG1 := Lib.hid (HGV.out.trans H1.out.2)
 have hcr := wcreate_any kd 0 (some ⟨w.heap.size, 0, none⟩) 2 rM (rM_may h1 h5) (by decide) (by omega) (by rw [rM_size]; omega) (by omega) w1 H1.out.1 (HRI.out.gr H1.out.2)
 rw [← nmA_eq] at hcr
 have HCR : Hid (Calls Try.prog 9 #[.pointer (some ⟨F, 0, none⟩), .string ⟨#[97]⟩, .agg #[.int .i64 kd, .int .i64 0, .slice (some ⟨w.heap.size, 0, none⟩) 2 2]] w1 fun e w' => e = .returned (.int .i64 0) ∧ FsM (fun _ => False) w' F P M none 65536 0 (some (newS kd 0 rM)) ∧ Kp (Tch P M none) w1 w') := Lib.hid hcr
 clear hF hP hM hcr hsz h1 h5 c0 c1 c2 hzV
 go_upto_region 8 with (go_at_call 9; refine HCR.out.mono ?_; rintro e w2 ⟨rfl, hf2, hk2⟩; have H2 := Lib.hid (And.intro hf2 (gr_tch HG1.out hk2 HPM.out.1 HPM.out.2 (fun _ e => by cases e))); clear hf2 hk2)
 clear z0 z1 z2
 go_wp2
 have hz2 := H2.out.2.size
 have hlF := H2.out.1.lf
 have hlP := H2.out.1.lp
 have hlM := H2.out.1.lm
 go_loopw [8, 9] (fun v i wr => ∃ (j : Nat) (D : List UInt8), j ≤ ns.length ∧ i = .int .i64 j ∧ Gr w wr ∧ w2.heap.size ≤ wr.heap.size ∧ wr.ownsRow w2.heap.size 3 1 v j (icn (ns.take j)) ∧ (j = 0 → v.ownBlock = none) ∧ FsM (fun _ => False) wr F P M none 65536 0 (some D) ∧ RoI kd ns j D ∧ Bnd (ns.take j)) (fun _ i _ => ns.length - (intOf i).toNat)
 case atStart => exact ⟨0, newS kd 0 rM, Nat.zero_le _, rfl, H2.out.2, Nat.le_refl _, World.ownsRow_nil _ _ _ _, fun _ => rfl, H2.out.1, RoI.start HKD.out.1 HKD.out.2 ns, fun z hz => by simp at hz⟩
 case round =>
  obtain ⟨j, D, hj, rfl, hgr, hsz, hown, hv0, hfs, hroi, hbn⟩ := hrel
  by_cases hlt : j < ns.length
  ·
   have hlti : (j : Int) < (ns.length : Int) := by omega
   obtain ⟨ad, rfl, had, hcl⟩ := (HR.out.gr hgr).at hlt
   obtain ⟨x, hx⟩ : ∃ x, x = ns[j] := ⟨_, rfl⟩
   rw [← hx] at hcl
   by_cases hb1 : x < -1099511627776
   ·
    have HG := Lib.hid hgr
    clear hgr hown hfs hroi hbn hx
    go_wp2
    go_ret
    exact ⟨rfl, HG.out⟩
   by_cases hb2 : 1099511627776 < x
   ·
    have HG := Lib.hid hgr
    clear hgr hown hfs hroi hbn hx
    go_wp2
    go_ret
    exact ⟨rfl, HG.out⟩
   obtain ⟨D', hup', hroi', hbn'⟩ := roll_upd HKD.out.1 HKD.out.2 hroi hlt hl2 hbn (by rw [← hx]; omega)
   rw [← hx] at hup'
   have hT := List.take_succ_eq_append_getElem hlt
   rw [← hx] at hT
   obtain ⟨t, ht⟩ : ∃ t : Int, t = 1000 + (j : Int) := ⟨_, rfl⟩
   rw [← ht] at hup'
   have hwt : IntKind.i64.wrap (1000 + (j : Int)) = t := by rw [ht]; exact IntWalk.i64_in _ (by omega)
   obtain ⟨V3, hV3⟩ : ∃ V3, V3 = wr.alloc (.cells #[.int .i64 t, .int .i64 x] 26) := ⟨_, rfl⟩
   have g3 : Gr wr V3 := by rw [hV3]; exact Gr.alloc (Gr.refl wr) _
   have hDl : (D.length : Int) ≤ 1073741824 := by rw [hroi.ok.1, rM_size]; omega
   have hup := wupdate_any hDl (opS_hdr (rM_may HKD.out.1 HKD.out.2) hroi.ok) t (by omega) (by omega) (some ⟨wr.heap.size, 0, none⟩) 1 [(t, x)] (by simp) (by omega) V3 (hfs.gr g3) (by rw [hV3]; exact Ri.lit1 wr t x _) (fun a e => by
    injection e with e
    subst e
    intro e
    rcases e with e | e | e
    ·
     simp only at e; omega
    ·
     simp only at e; omega
    ·
     cases e)
   rw [← nmA_eq] at hup
   have e1 : (updS ((kd : Nat) : Int) ((0 : Nat) : Int) rM t [(t, x)] (0, D)).1 = 1 := by rw [show ((0 : Nat) : Int) = 0 from rfl, hup']
   have e2 : (updS ((kd : Nat) : Int) ((0 : Nat) : Int) rM t [(t, x)] (0, D)).2 = D' := by rw [show ((0 : Nat) : Int) = 0 from rfl, hup']
   rw [e1, e2] at hup
   have HUP : Hid (Calls Try.prog 10 #[.pointer (some ⟨F, 0, none⟩), .string ⟨#[97]⟩, .int .i64 t, .slice (some ⟨wr.heap.size, 0, none⟩) 1 1] V3 fun e w' => e = .returned (.tuple #[.int .i64 1, .int .i64 0]) ∧ FsM (fun _ => False) w' F P M none 65536 0 (some D') ∧ Kp (Tch P M none) V3 w') := Lib.hid hup
   have HV3 := Lib.hid hV3
   have HGR := Lib.hid (And.intro hgr (hgr.trans g3))
   have HOW := Lib.hid (And.intro hown (own_grU hown g3))
   have HRO := Lib.hid (And.intro hroi' (And.intro hbn' (And.intro hT hlt)))
   have HSZ := Lib.hid (And.intro (Nat.le_trans hsz g3.size) hv0)
   have HHR := Lib.hid (HR.out.gr (hgr.trans g3))
   have HX := Lib.hid hx
   have hnb : (j : Int) ≤ 10 := by omega
   clear hup e1 e2 hV3 g3 hroi hroi' hbn hbn' hfs hown hgr hv0 hT hup' hx ht
   go_upto_region 14 with (go_at_call 10; rw [← HV3.out]; refine HUP.out.mono ?_; rintro e w5 ⟨rfl, hf5, hk5⟩; have H5 := Lib.hid (And.intro hf5 (And.intro hk5 (gr_tch HGR.out.2 hk5 HPM.out.1 HPM.out.2 (fun _ e => by cases e)))); clear hf5 hk5)
   have hnT : ∀ k, u8.ownBlock = some k → ¬ Tch P M none k := fun k e e2 => by
    have h1 := (HOW.out.1.lt k e).1
    rcases e2 with e2 | e2 | e2
    ·
     omega
    ·
     omega
    ·
     cases e2
   have hown5 := H5.out.2.1.own HOW.out.2 hnT
   obtain ⟨ad', hAd, had5, hcl5⟩ := (HR.out.gr H5.out.2.2).at HRO.out.2.2.2
   injection hAd with hAd
   subst hAd
   rw [← HX.out] at hcl5
   have hz5 := H5.out.2.1.size
   have hwz := HSZ.out.1
   have hrx : Rd (w5.alloc (.cells (icn [x]).toArray 3)) 1 (some ⟨w5.heap.size, 0, none⟩) 1 (icn [x]) := Rd.newU (W := w5) (n := 1) (size := 1) rfl 3 (icn [x]) rfl
   have hv0w := own_grU hown5 (Gr.alloc (Gr.refl w5) (.cells (icn [x]).toArray 3))
   have hvl := hown5.lt
   have HO5 := Lib.hid hown5
   clear hnT hown5 hcl
   go_wp2_with (at_builtin; refine wpList_append_rd rfl (.tmp 92) (.tmp 97) 49 rfl w2.heap.size 3 i0 _ 1 8 Try.underlying49 hi0 hy0 hy1 hy2 rfl (by decide) _ _ _ rfl hv0w (some ⟨w5.heap.size, 0, none⟩) 1 _ (icn [x]) rfl hrx (icn_one _) (by unfold maxLen; omega) (by omega) (by simp; omega) ?_; intro v' w7 hown7 hgr7 hat7)
   have k7 : Kp (fun k => u8.ownBlock = some k) w5 w7 := (Kp.of_gr (fun k => u8.ownBlock = some k) (Gr.alloc (Gr.refl w5) (.cells (icn [x]).toArray 3))).grown hgr7 (fun k e => .inl e)
   have hg7 : Gr w w7 := ((Kp.of_gr (fun k => u8.ownBlock = some k) H5.out.2.2).trans k7 (fun _ _ e => e)).gr (fun i hi e => by have := (hvl i e).1; have := H2.out.2.size; omega)
   have hFn : ∀ k, k < w2.heap.size → ¬ u8.ownBlock = some k := fun k hk e => by have := (hvl k e).1; omega
   have hD'0 : 0 < D'.length := by rw [HRO.out.1.ok.1, rM_size]; decide
   have hf7 : FsM (fun _ => False) w7 F P M none 65536 0 (some D') := by
    refine FsM.weak ((H5.out.1.withY (Y' := fun k => u8.ownBlock = some k) hD'0 (fun k e => (hvl k e).2) (fun k e => ?_)).kp k7 (hFn F hlF) (hFn P hlP) (hFn M hlM) (fun i e => by cases e) (fun g _ e => .inr (.inr (.inr (.inr (.inr (.inr e)))))))
    have hj0 : 0 < j := by
     rcases Nat.eq_zero_or_pos j with e0 | e0
     ·
      rw [HSZ.out.2 e0] at e; cases e
     ·
      exact e0
    exact own_first HO5.out e HO5.out.1 (.inr hj0)
   have HF7 := Lib.hid (And.intro hf7 hg7)
   have HO7 : Hid (w7.ownsRow w2.heap.size 3 1 v' (j + 1) (icn (ns.take (j + 1)))) := Lib.hid (by rw [HRO.out.2.2.1]; simpa [icn] using hown7)
   have hz7 := k7.size
   clear hv0w hvl hgr7 hat7 hrx hown7 k7 hg7 hf7 hFn hD'0
   go_wp2
   go_roundw
   case rel => exact ⟨j + 1, D', by omega, by go_num, HF7.out.2, by omega, HO7.out, fun e => by omega, HF7.out.1, HRO.out.1, HRO.out.2.1⟩
   case measure => simp [intOf]; omega
  ·
   have hje : j = ns.length := by omega
   subst hje
   rw [List.take_length] at hown hbn
   have hs1 := hroi.s1 (by omega)
   rw [List.take_length] at hs1
   obtain ⟨q, hq, hq1, hq2⟩ := roll_ok (by omega) hl2 hbn (kd := (kd : Int)) (by have := HKD.out.1; omega) (by have := HKD.out.2; omega)
   have hfv : fetV rM D 1030 995 1005 = [⟨true, q⟩] := by rw [roll_fet, hs1, hq]
   obtain ⟨Av, cv, hv⟩ := own_form hown
   subst hv
   obtain ⟨gb, rfl, hgb, hgl, hcells⟩ := own_blockU hown (by omega)
   have hcl : ∀ k (hk : k < ns.length), wr.cell? ⟨gb, k, none⟩ = some (.int .i64 ns[k]) := fun k hk => hcells k _ (by simp [icn, hk])
   have hDl : (D.length : Int) ≤ 1073741824 := by rw [hroi.ok.1, rM_size]; omega
   have hfe := wfetch_any hDl (opS_hdr (rM_may HKD.out.1 HKD.out.2) hroi.ok) 1030 995 1005 (by omega) (by omega) (by omega) (by omega) (by omega) (by rw [show spanS rM = 60 from by kernel_rfl]; omega) wr hfs
   rw [← nmA_eq] at hfe
   have HFE : Hid (Calls Try.prog 13 #[.pointer (some ⟨F, 0, none⟩), .string ⟨#[97]⟩, .int .i64 1030, .int .i64 995, .int .i64 1005] wr fun e w' => Gr wr w' ∧ ∃ A c, e = .returned (.tuple #[.agg #[.string nmA, .int .i64 1000, .int .i64 10, .slice A 1 c, .int .i64 0], .int .i64 0]) ∧ Rv w' A [⟨true, q⟩]) := Lib.hid (by
    refine hfe.mono ?_
    rintro e w' ⟨hg, A, c, rfl, hr⟩
    rw [hfv] at hr ⊢
    rw [roll_st, roll_step]
    exact ⟨hg, A, c, rfl, hr⟩)
   have HCL := Lib.hid hcl
   have HGR := Lib.hid hgr
   have HB := Lib.hid (And.intro hbn hq)
   have HGL := Lib.hid hgl
   have hli : (ns.length : Int) ≤ 10 := by omega
   have hl0 : (0 : Int) < (ns.length : Int) := by omega
   have hl0n : 0 < ns.length := by omega
   clear hfe hcl hgr hbn hq hfs hroi hown hcells hs1 hfv hj hv0 hsz hDl hgb hlt
   go_upto_region 20 with (go_at_call 13; refine HFE.out.mono ?_; rintro e w5 ⟨g5, A5, c5, rfl, hr5⟩; obtain ⟨a5, rfl, hb5, hx0, hx1⟩ := hr5.at (show 0 < 1 by decide); have HG5 := Lib.hid g5; have HX5 : Hid (w5.cell? a5 = some (.bool true) ∧ w5.cell? ⟨a5.block, a5.off + 1, none⟩ = some (.int .i64 q) ∧ a5.block < w5.heap.size) := Lib.hid ⟨hx0, hx1, hb5⟩; clear g5 hr5 hx0 hx1 hb5)
   obtain ⟨W6, hW6⟩ : ∃ W6, W6 = w5.alloc (.cells #[.string nmA, .int .i64 1000, .int .i64 10, .slice (some a5) 1 c5, .int .i64 0] 43) := ⟨_, rfl⟩
   have g6 : Gr w5 W6 := by rw [hW6]; exact Gr.alloc (Gr.refl w5) _
   have s3 : W6.cell? ⟨w5.heap.size, 3, none⟩ = some (.slice (some a5) 1 c5) := by rw [hW6]; go_simp
   have hz6 : w5.heap.size < W6.heap.size := by rw [hW6]; simp
   have gr6 : Gr wr W6 := HG5.out.trans g6
   have v0 := (Below.cell gr6 (p := ⟨gb, 0, none⟩) HGL.out).trans (HCL.out 0 (by omega))
   have hgl := Nat.lt_of_lt_of_le HGL.out gr6.size
   have HG6 := Lib.hid (And.intro gr6 (And.intro (HGR.out.trans gr6) g6))
   rw [← hW6]
   clear hW6 g6 gr6
   obtain ⟨n0, hn0⟩ : ∃ n0, n0 = ns[0]'(by omega) := ⟨_, rfl⟩
   rw [← hn0] at v0
   have HN0 := Lib.hid hn0
   clear hn0
   refine region_Q (by kernel_rfl) (by kernel_rfl) ?_
   iterate 2 (refine q_val (v := ?_) (by rfl) (fun W hW => ?_) ?_; rotate_left; (focus go_simp; rfl); simp only [Pu])
   refine q_val (v := ?qv3) (by rfl) (fun W hW => ?qh3) ?qr3
   case qh3 => have y0 := (Below.cell hW (p := ⟨gb, 0, none⟩) hgl).trans v0; go_simp; rfl
   simp only [Pu]
   iterate 2 (refine q_val (v := ?_) (by rfl) (fun W hW => ?_) ?_; rotate_left; (focus go_simp; rfl); simp only [Pu])
   refine q_val (v := ?qv6) (by rfl) (fun W hW => ?qh6) ?qr6
   case qh6 => have y0 := (Below.cell hW (p := ⟨gb, 0, none⟩) hgl).trans v0; go_simp; rfl
   simp only [Pu]
   iterate 3 (refine q_val (v := ?_) (by rfl) (fun W hW => ?_) ?_; rotate_left; (focus go_simp; rfl); simp only [Pu])
   refine wpQuiet_nil ?_
   intro W7 hW7
   have HW7 := Lib.hid hW7
   have hz7 := hW7.size
   clear hW7
   have g67 : Gr wr W7 := HG6.out.1.trans HW7.out
   have HG7 := Lib.hid (And.intro g67 (And.intro (HG6.out.2.1.trans HW7.out) (HG6.out.2.2.trans HW7.out)))
   have hgl7 := Nat.lt_of_lt_of_le HGL.out g67.size
   have HC7 : Hid (∀ k (hk : k < ns.length), W7.cell? ⟨gb, k, none⟩ = some (.int .i64 ns[k])) := Lib.hid (fun k hk => (Below.cell g67 (p := ⟨gb, k, none⟩) HGL.out).trans (HCL.out k hk))
   have s3b := (Below.cell HW7.out (p := ⟨w5.heap.size, 3, none⟩) hz6).trans s3
   have hz7b := Nat.lt_of_lt_of_le hz6 HW7.out.size
   have HB0 : Hid (Bnd (n0 :: ns)) := Lib.hid (fun z hz => by
    rcases List.mem_cons.1 hz with e | e
    ·
     rw [e, HN0.out]; exact HB.out.1 _ (List.getElem_mem _)
    ·
     exact HB.out.1 z e)
   clear g67 s3 v0 hgl
   go_wp2
   go_loopw [14, 15, 16, 17] (fun s lo hi i wz => ∃ k : Nat, k ≤ ns.length ∧ i = .int .i64 k ∧ s = .int .i64 (smI (ns.take k)) ∧ lo = .int .i64 ((ns.take k).foldl min n0) ∧ hi = .int .i64 ((ns.take k).foldl max n0) ∧ Gr W7 wz) (fun _ _ _ i _ => ns.length - (intOf i).toNat)
   case atStart => exact ⟨0, Nat.zero_le _, rfl, rfl, rfl, rfl, Gr.refl _⟩
   case round =>
    obtain ⟨k, hk, rfl, rfl, rfl, rfl, hgz0⟩ := hrel
    obtain ⟨sm, hsm⟩ : ∃ sm, sm = smI (ns.take k) := ⟨_, rfl⟩
    obtain ⟨lo, hlo⟩ : ∃ lo, lo = (ns.take k).foldl min n0 := ⟨_, rfl⟩
    obtain ⟨hi, hhi⟩ : ∃ hi, hi = (ns.take k).foldl max n0 := ⟨_, rfl⟩
    rw [← hsm, ← hlo, ← hhi]
    have hbk : Bnd (ns.take k) := fun z hz => HB.out.1 z (List.mem_of_mem_take hz)
    have hsb := smI_bnd (ns.take k) hbk
    have htl : (ns.take k).length = k := by rw [List.length_take]; omega
    rw [htl, ← hsm] at hsb
    by_cases hlt : k < ns.length
    ·
     have hlti : (k : Int) < (ns.length : Int) := by omega
     obtain ⟨x, hx⟩ : ∃ x, x = ns[k] := ⟨_, rfl⟩
     have hxb := HB.out.1 _ (List.getElem_mem hlt)
     rw [← hx] at hxb
     have yk := (Below.cell hgz0 (p := ⟨gb, k, none⟩) hgl7).trans (HC7.out k hlt)
     rw [← hx] at yk
     have hgz := Nat.lt_of_lt_of_le hgl7 hgz0.size
     have hws : IntKind.i64.wrap (sm + x) = sm + x := IntWalk.i64_in _ (by omega)
     have hwk : IntKind.i64.wrap (k : Int) = (k : Int) := IntWalk.i64_in _ (by omega)
     have HN : Hid (sm + x = smI (ns.take (k + 1)) ∧ min lo x = (ns.take (k + 1)).foldl min n0 ∧ max hi x = (ns.take (k + 1)).foldl max n0) := Lib.hid (by
      rw [List.take_succ_eq_append_getElem hlt, ← hx]
      refine ⟨?_, ?_, ?_⟩
      ·
       rw [hsm]; unfold smI; rw [List.foldl_append]; rfl
      ·
       rw [hlo, List.foldl_append]; rfl
      ·
       rw [hhi, List.foldl_append]; rfl)
     have HGZ := Lib.hid hgz0
     clear hsm hlo hhi hx hgz0 hsb htl hbk hxb
     go_upto_region 24 with (fail)
     refine region_Q (by kernel_rfl) (by kernel_rfl) ?_
     iterate 4 (refine q_val (v := ?_) (by rfl) (fun W hW => ?_) ?_; rotate_left; (focus go_simp; rfl); simp only [Pu])
     refine q_val (v := ?qv27) (by rfl) (fun W hW => ?qh27) ?qr27
     case qh27 => have y0 := (Below.cell hW (p := ⟨gb, k, none⟩) hgz).trans yk; go_simp; rfl
     simp only [Pu]
     iterate 5 (refine q_val (v := ?_) (by rfl) (fun W hW => ?_) ?_; rotate_left; (focus go_simp; rfl); simp only [Pu])
     refine q_val (v := ?qv33) (by rfl) (fun W hW => ?qh33) ?qr33
     case qh33 => have y0 := (Below.cell hW (p := ⟨gb, k, none⟩) hgz).trans yk; go_simp; rfl
     simp only [Pu]
     iterate 5 (refine q_val (v := ?_) (by rfl) (fun W hW => ?_) ?_; rotate_left; (focus go_simp; rfl); simp only [Pu])
     refine q_val (v := ?qv39) (by rfl) (fun W hW => ?qh39) ?qr39
     case qh39 => have y0 := (Below.cell hW (p := ⟨gb, k, none⟩) hgz).trans yk; go_simp; rfl
     simp only [Pu]
     iterate 4 (refine q_val (v := ?_) (by rfl) (fun W hW => ?_) ?_; rotate_left; (focus go_simp; rfl); simp only [Pu])
     refine wpQuiet_nil ?_
     intro Z8 hz8
     have HZ8 := Lib.hid (HGZ.out.trans hz8)
     clear hz8
     go_wp2
     go_roundw
     case rel => exact ⟨k + 1, by omega, by go_num, by rw [HN.out.1], by rw [HN.out.2.1], by rw [HN.out.2.2], HZ8.out⟩
     case measure => simp [intOf]; omega
    ·
     have hkk : k = ns.length := by omega
     subst hkk
     rw [List.take_length] at hsm hlo hhi
     have s3c := (Below.cell hgz0 (p := ⟨w5.heap.size, 3, none⟩) hz7b).trans s3b
     have g5z : Gr w5 wr := HG7.out.2.2.trans hgz0
     have y0 := (Below.cell g5z (p := a5) HX5.out.2.2).trans HX5.out.1
     have y1 := (Below.cell g5z (p := ⟨a5.block, a5.off + 1, none⟩) HX5.out.2.2).trans HX5.out.2.1
     have hb5 := Nat.lt_of_lt_of_le HX5.out.2.2 g5z.size
     obtain ⟨l1, hl1⟩ : ∃ l1, l1 = ns.length - 1 := ⟨_, rfl⟩
     have hl1n : l1 < ns.length := by omega
     have hl1i : (l1 : Int) < (ns.length : Int) := by omega
     have hwl : IntKind.i64.wrap ((ns.length : Int) - 1) = (l1 : Int) := by rw [show (ns.length : Int) - 1 = (l1 : Int) by omega]; exact IntWalk.i64_in _ (by omega)
     have hwl1 : IntKind.i64.wrap (l1 : Int) = (l1 : Int) := IntWalk.i64_in _ (by omega)
     obtain ⟨la, hla⟩ : ∃ la, la = ns[l1] := ⟨_, rfl⟩
     have yl := (Below.cell hgz0 (p := ⟨gb, l1, none⟩) hgl7).trans (HC7.out l1 hl1n)
     rw [← hla] at yl
     obtain ⟨r2, r3, r4, r5, qq, r1, -, -, ra, rb⟩ := roll_of hl0n hl2 HB.out.1
     have hof := HB.out.2
     have hn00 : ns[0] = n0 := HN0.out.symm
     have hlast : ns[ns.length - 1] = la := by rw [hla]; congr 1; exact hl1.symm
     rw [hn00, ← hhi] at r4
     rw [hn00, ← hlo] at r5
     rw [← hsm] at r2 ra rb
     rw [hlast] at r3
     obtain ⟨Wv, hWv⟩ : ∃ Wv, Wv = wr.alloc (.cells #[.bool true, .int .i64 q] 47) := ⟨_, rfl⟩
     have gv : Gr wr Wv := by rw [hWv]; exact Gr.alloc (Gr.refl wr) _
     have b0 : Wv.cell? ⟨wr.heap.size, 0, none⟩ = some (.bool true) := by rw [hWv]; go_simp
     have b1 : Wv.cell? ⟨wr.heap.size, 1, none⟩ = some (.int .i64 q) := by rw [hWv]; go_simp
     have hzv : wr.heap.size < Wv.heap.size := by rw [hWv]; simp
     have ylv := (Below.cell gv (p := ⟨gb, l1, none⟩) (Nat.lt_of_lt_of_le hgl7 hgz0.size)).trans yl
     have hglv := Nat.lt_of_lt_of_le (Nat.lt_of_lt_of_le hgl7 hgz0.size) gv.size
     have HWV := Lib.hid (HG7.out.2.1.trans (hgz0.trans gv))
     have HEW := Lib.hid hWv
     have HKK := Lib.hid (And.intro r1 (And.intro r2 (And.intro r3 (And.intro r4 r5))))
     have HAB := Lib.hid (And.intro ra rb)
     have HOF := Lib.hid hof
     have HSB := Lib.hid hsb
     clear hsm hlo hhi r1 r2 r3 r4 r5 ra rb hof hn00 hlast hla hgz0 g5z gv hWv yl hbk hsb htl hl1 hk hlt
     go_upto_region 26 with (fail)
     rw [← HEW.out]
     obtain ⟨vb, hvb⟩ : ∃ vb, vb = wr.heap.size := ⟨_, rfl⟩
     rw [← hvb] at b0 b1 hzv ⊢
     clear hvb
     have hK5 := HKD.out
     rcases (show kd = 1 ∨ kd = 2 ∨ kd = 3 ∨ kd = 4 ∨ kd = 5 by omega) with e | e | e | e | e
     ·
      subst e
      clear hK5 hkd1 hkd5
      have hqq : q = qq := by have h := HOF.out.symm.trans HKK.out.1; injection h
      obtain ⟨p, hp⟩ : ∃ p : Int, p = q * (ns.length : Int) := ⟨_, rfl⟩
      have hab := HAB.out
      rw [← hqq, ← hp] at hab
      have hsbb := HSB.out
      have hwp : IntKind.i64.wrap (q * (ns.length : Int)) = p := by rw [← hp]; exact IntWalk.i64_in _ (by omega)
      have hwd : IntKind.i64.wrap (p - sm) = p - sm := IntWalk.i64_in _ (by omega)
      obtain ⟨dd, hdd⟩ : ∃ dd : Int, dd = 2 * (p - sm) := ⟨_, rfl⟩
      have hw2 : IntKind.i64.wrap (2 * (p - sm)) = dd := by rw [← hdd]; exact IntWalk.i64_in _ (by omega)
      have hwn : IntKind.i64.wrap (-dd) = -dd := IntWalk.i64_in _ (by omega)
      have hd1 : dd ≤ (ns.length : Int) := by omega
      have hd2 : -dd ≤ (ns.length : Int) := by omega
      clear hp hdd hab hsbb hqq
      go_wp2_with (go_at_call 12; refine (known7_any _).mono ?_; rintro e w9 ⟨rfl, g9⟩; have HK := Lib.hid g9; clear g9)
      go_ret
      exact ⟨rfl, HWV.out.trans HK.out⟩
     ·
      subst e
      clear hK5 hkd1 hkd5
      obtain rfl : q = sm := by have h := HOF.out.symm.trans HKK.out.2.1; injection h
      go_wp2_with (go_at_call 12; refine (known7_any _).mono ?_; rintro e w9 ⟨rfl, g9⟩; have HK := Lib.hid g9; clear g9)
      go_ret
      exact ⟨rfl, HWV.out.trans HK.out⟩
     ·
      subst e
      clear hK5 hkd1 hkd5
      obtain rfl : q = la := by have h := HOF.out.symm.trans HKK.out.2.2.1; injection h
      go_upto_region 30 with (fail)
      refine region_R (by kernel_rfl) (by kernel_rfl) ?_
      refine r_val (v := ?qv10) (by kernel_rfl) (fun W hW => ?qh10) ?qr10
      case qh10 => have e0 := (Below.cell hW (p := ⟨vb, 0, none⟩) hzv).trans b0; have e1 := (Below.cell hW (p := ⟨vb, 1, none⟩) hzv).trans b1; go_light; go_simp; rfl
      simp only [Pu]
      iterate 5 (refine r_val (v := ?_) (by kernel_rfl) (fun W hW => ?_) ?_; rotate_left; (focus go_light; go_simp; rfl); simp only [Pu])
      refine r_val (v := ?qv16) (by kernel_rfl) (fun W hW => ?qh16) ?qr16
      case qh16 => have e2 := (Below.cell hW (p := ⟨gb, l1, none⟩) hglv).trans ylv; go_light; go_simp; rfl
      simp only [Pu]
      iterate 3 (refine r_val (v := ?_) (by kernel_rfl) (fun W hW => ?_) ?_; rotate_left; (focus go_light; go_simp; rfl); simp only [Pu])
      refine r_call (v := .bool true) (f := ?qf20) (args := ?qa20) (by kernel_rfl) (fun W hW => ?qh20) (fun W hW => ?qc20) ?qr20
      case qh20 => go_light; go_simp; constructor <;> rfl
      case qc20 => exact (known7_any W).mono (fun e w' h => ⟨h.1, Gr.trans hW h.2⟩)
      simp only [Pu]
      iterate 2 (refine r_val (v := ?_) (by kernel_rfl) (fun W hW => ?_) ?_; rotate_left; (focus go_light; go_simp; rfl); simp only [Pu])
      refine r_nil ?_
      intro Z9 hz9
      have HK := Lib.hid hz9
      go_wp2
      go_ret
      exact ⟨rfl, HWV.out.trans HK.out⟩
     ·
      subst e
      clear hK5 hkd1 hkd5
      obtain rfl : q = hi := by have h := HOF.out.symm.trans HKK.out.2.2.2.1; injection h
      go_wp2_with (go_at_call 12; refine (known7_any _).mono ?_; rintro e w9 ⟨rfl, g9⟩; have HK := Lib.hid g9; clear g9)
      go_ret
      exact ⟨rfl, HWV.out.trans HK.out⟩
     ·
      subst e
      clear hK5 hkd1 hkd5
      obtain rfl : q = lo := by have h := HOF.out.symm.trans HKK.out.2.2.2.2; injection h
      go_wp2_with (go_at_call 12; refine (known7_any _).mono ?_; rintro e w9 ⟨rfl, g9⟩; have HK := Lib.hid g9; clear g9)
      go_ret
      exact ⟨rfl, HWV.out.trans HK.out⟩
theorem law_WhisperRolls (kd : Int) (A : Option Addr) (c : Nat) (ns : List Int) (w : World) (hr : Rn w A ns) : Calls Try.prog 4 #[.int .i64 kd, .slice A ns.length c] w fun e w' => e = .returned (.bool true) ∧ Gr w w' := by
 by_cases h : kd < 1 ∨ 5 < kd ∨ ns.length < 1 ∨ 10 < ns.length
 ·
  exact rolls_start kd A c ns w hr h
 ·
  obtain ⟨k, rfl⟩ : ∃ k : Nat, kd = k := ⟨kd.toNat, by omega⟩
  exact rolls_any k A c ns w hr (by omega) (by omega) (by omega) (by omega)
end Go.Proofs.Ytoncapkmaeghfaa
