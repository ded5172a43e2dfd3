/- Writing a slot: (*whisper.file).writes. -/
import Derived.Test.YtoncapkmaeghfaaRunWiHas
import Derived.Test.YtoncapkmaeghfaaRunWhOff
namespace Go.Proofs.Ytoncapkmaeghfaa
set_option linter.unusedVariables false
set_option linter.unusedSimpArgs false
open Go.RowKit

/-- bytes laid over a row of one's own, by the builtin copy. -/
theorem own_laid {w w' : World} {base g n d : Nat} {e t : TypeId} {l l' : List UInt8} {rest : List Value} (h : w.ownsRow base e 1 (.slice (some ⟨g, 0, none⟩) n d) n (bys l)) (hh : w.heap[g]? = some (.cells (bys l ++ rest).toArray t (0, 0))) (hh' : w'.heap[g]? = some (.cells (bys l' ++ rest).toArray t (0, 0))) (hl : l'.length = l.length) : w'.ownsRow base e 1 (.slice (some ⟨g, 0, none⟩) n d) n (bys l') := by
 obtain ⟨h1, ⟨hv, h0⟩ | ⟨g', cap, cur, hv, hb, hc, h2, h3, h4, h5⟩⟩ := h
 ·
  cases hv
 ·
  injection hv with hv1 hv2 hv3
  injection hv1 with hv1
  injection hv1 with hv1 _ _
  subst hv1
  subst hv3
  rw [hh] at hc
  injection hc with hc
  injection hc with hc1 hc2 hc3
  subst hc1
  subst hc2
  have hn : n = l.length := by rw [bys_length] at h1; omega
  refine ⟨by rw [bys_length, hl]; omega, .inr ⟨g, d, _, rfl, hb, hh', h2, h3, ?_, ?_⟩⟩
  ·
   rw [List.size_toArray, List.length_append, bys_length] at h4 ⊢
   omega
  ·
   rw [List.toList_toArray]
   exact List.take_left' (by rw [bys_length, hl]; omega)
theorem wpList_copy_put {P : Program} {w : World} {ops : Array Oper} {rest : List Oper} {o : Oper} {a : Act} {Q : Exit → Act → World → Prop} (hgd : o.guard = none) (x s : Operand) (dT sT : TypeId)
  (ho : o.op = .call { callee := .builtin .copy, args := #[x, s], argTypes := #[dT, sT] }) (elem : TypeId) (hu : P.underlying dT = some (.slice elem)) (hsz : (P.info? elem).map (·.size) = some 1)
  (base g off d dCap sCap : Nat) (D L : List UInt8) (ad : Addr) (hd : a.eval x = .slice (some ⟨g, off, none⟩) (D.length - off) dCap) (hs : a.eval s = .slice (some ad) L.length sCap)
  (own : w.ownsRow base elem 1 (.slice (some ⟨g, 0, none⟩) D.length d) D.length (bys D)) (hr : Rb w (some ad) L) (h0 : 0 < L.length) (hfit : off + L.length ≤ D.length)
  (h : ∀ w', Hid (w'.ownsRow base elem 1 (.slice (some ⟨g, 0, none⟩) D.length d) D.length (bys (putB D off L))) → Hid (Kp (fun k => k = g) w w') → wpList P ops Q rest (a.put o.dst (goInt L.length)) w') : wpList P ops Q (o :: rest) a w := by
 obtain ⟨r, t, hg⟩ := own_open own
 obtain ⟨ad', e, hb, hc⟩ := hr.2 h0
 injection e with e
 subst e
 have hL : (bys L).length = L.length := by rw [bys_length, Nat.mul_one]
 refine wpList_copy_own hgd x s dT sT ho elem hu hsz g off (D.length - off) dCap ad L.length sCap hd hs _ t hg (bys L) (by rw [hL]; exact (Nat.min_eq_left (by omega)).symm) (fun j v hv => hc j v hv) (by rw [List.size_toArray, List.length_append, hL, bys_length]; omega) (bys_one _) ?_
 rw [hL]
 have e2 : ((bys D ++ r).toArray.toList.take off ++ (bys L ++ (bys D ++ r).toArray.toList.drop (off + L.length))) = bys (putB D off L) ++ r := by
  rw [← splice_bys r hfit]
  unfold splice
  rw [hL]
 rw [e2]
 have hh := setRow_heap w g _ (bys (putB D off L) ++ r).toArray t _ hg
 exact h _ (Lib.hid (own_laid own hg hh (putB_len hfit))) (Lib.hid ⟨rfl, rfl, rfl, by simp [World.setRow], fun k _ hk => setRow_other w g k _ hk⟩)
theorem putB_mid (p a r x : List UInt8) (h : x.length = a.length) : putB (p ++ (a ++ r)) p.length x = p ++ (x ++ r) := by
 unfold putB
 rw [List.take_left' rfl, h, ← List.append_assoc p a r, List.drop_left' (by rw [List.length_append])]
theorem putB_two {D : List UInt8} {k : Nat} {a a' b : List UInt8} (h : a'.length = a.length) (hk : k + a.length + b.length ≤ D.length) : putB (putB (putB D k a) (k + a.length) b) k a' = putB D k (a' ++ b) := by
 obtain ⟨p, x, y, r, hD, hp, hx, hy⟩ : ∃ p x y r : List UInt8, D = p ++ (x ++ (y ++ r)) ∧ p.length = k ∧ x.length = a.length ∧ y.length = b.length := by
  refine ⟨D.take k, (D.drop k).take a.length, ((D.drop k).drop a.length).take b.length, ((D.drop k).drop a.length).drop b.length, by rw [List.take_append_drop, List.take_append_drop, List.take_append_drop], ?_, ?_, ?_⟩
  ·
   rw [List.length_take]; omega
  ·
   rw [List.length_take, List.length_drop]; omega
  ·
   rw [List.length_take, List.length_drop, List.length_drop]; omega
 subst hp
 subst hD
 rw [putB_mid p x (y ++ r) a hx.symm]
 have e : p ++ (a ++ (y ++ r)) = (p ++ a) ++ (y ++ r) := by rw [List.append_assoc]
 rw [e, show p.length + a.length = (p ++ a).length by rw [List.length_append], putB_mid (p ++ a) y r b hy.symm, List.append_assoc, putB_mid p a (b ++ r) a' h]
 rw [show x ++ (y ++ r) = (x ++ y) ++ r by rw [List.append_assoc], putB_mid p (x ++ y) r (a' ++ b) (by rw [List.length_append, List.length_append, h, hx, hy]), List.append_assoc]
/-- what a file has behind so many of the three writes. -/
def wrS (D : List UInt8) (k : Nat) (t v : Int) : Nat → List UInt8
 | 0 => D
 | 1 => putB D k [0, 0, 0, 0]
 | 2 => putB (putB D k [0, 0, 0, 0]) (k + 4) (beB (u64 v) 8)
 | _ => putB (putB (putB D k [0, 0, 0, 0]) (k + 4) (beB (u64 v) 8)) k (beB (at4 t) 4)
theorem wrS_len {D : List UInt8} {k : Nat} (t v : Int) (h : k + 12 ≤ D.length) : ∀ j, (wrS D k t v j).length = D.length
 | 0 => rfl
 | 1 => putB_len (by simp; omega)
 | 2 => by rw [wrS, putB_len (by rw [putB_len (by simp; omega), beB_len]; omega), putB_len (by simp; omega)]
 | j + 3 => by
  show (putB (putB (putB D k [0, 0, 0, 0]) (k + 4) (beB (u64 v) 8)) k (beB (at4 t) 4)).length = _
  rw [putB_len (by rw [putB_len (by rw [putB_len (by simp; omega), beB_len]; omega), putB_len (by simp; omega), beB_len]; omega), putB_len (by rw [putB_len (by simp; omega), beB_len]; omega), putB_len (by simp; omega)]
theorem wrS_end {D : List UInt8} {k : Nat} (t v : Int) (h : k + 12 ≤ D.length) : wrS D k t v 3 = putB D k (encP t v) := by
 unfold wrS encP
 exact putB_two (a := [0, 0, 0, 0]) (by rw [beB_len]; rfl) (by rw [beB_len]; simp; omega)
/-- the three writes in memory. -/
def Thr (w : World) (B C : Nat) (B0 : Nat) (k : Nat) (t v : Int) : Prop :=
 ∀ j, j < 3 → ∃ (fr : Nat) (ad : Addr) (L : List UInt8) (cc : Nat), w.cell? ⟨C, j, none⟩ = some (.int .i64 fr) ∧ w.cell? ⟨B, j, none⟩ = some (.slice (some ad) L.length cc) ∧ Rb w (some ad) L ∧ B0 ≤ ad.block ∧ 0 < L.length ∧ fr + L.length ≤ 12 ∧ ∀ D, wrS D k t v (j + 1) = putB (wrS D k t v j) (k + fr) L
theorem Rb.some {w : World} {A : Option Addr} {l : List UInt8} (h : Rb w A l) (h0 : 0 < l.length) : ∃ ad, A = some ad := by
 obtain ⟨ad, e, -⟩ := h.2 h0
 exact ⟨ad, e⟩
theorem Thr.of {w : World} {B C B0 k c1 c2 : Nat} {t v : Int} {A0 A1 A2 : Option Addr} (y0 : w.cell? ⟨B, 0, none⟩ = some (.slice A0 4 4)) (y1 : w.cell? ⟨B, 1, none⟩ = some (.slice A1 8 c1)) (y2 : w.cell? ⟨B, 2, none⟩ = some (.slice A2 4 c2))
  (z0 : w.cell? ⟨C, 0, none⟩ = some (.int .i64 0)) (z1 : w.cell? ⟨C, 1, none⟩ = some (.int .i64 4)) (z2 : w.cell? ⟨C, 2, none⟩ = some (.int .i64 0)) (r0 : Rbf B0 w A0 [0, 0, 0, 0]) (r1 : Rbf B0 w A1 (beB (u64 v) 8)) (r2 : Rbf B0 w A2 (beB (at4 t) 4)) : Thr w B C B0 k t v := by
 obtain ⟨a0, e0⟩ := r0.1.some (by decide)
 obtain ⟨a1, e1⟩ := r1.1.some (by rw [beB_len]; decide)
 obtain ⟨a2, e2⟩ := r2.1.some (by rw [beB_len]; decide)
 subst e0 e1 e2
 intro j hj
 match j with
 | 0 => exact ⟨0, a0, [0, 0, 0, 0], 4, z0, y0, r0.1, r0.2 _ rfl, by decide, by decide, fun D => rfl⟩
 | 1 => exact ⟨4, a1, beB (u64 v) 8, c1, z1, by rw [beB_len]; exact y1, r1.1, r1.2 _ rfl, by rw [beB_len]; decide, by rw [beB_len]; decide, fun D => rfl⟩
 | 2 => exact ⟨0, a2, beB (at4 t) 4, c2, z2, by rw [beB_len]; exact y2, r2.1, r2.2 _ rfl, by rw [beB_len]; decide, by rw [beB_len]; decide, fun D => rfl⟩
theorem FiM.old {w : World} {X F P M : Nat} {R : Option Nat} {room : Int} {n ag xf b c : Nat} {m : Arcs} {g d : Nat} {D : List UInt8} (h : FiM w X F P M R room n ag xf b c m g d D) {q : Nat} (hq : w.heap.size ≤ q) : ¬ Tcg P M R g q := fun e => by
 have h1 := h.fs.lp
 have h2 := h.fs.lm
 have h3 := h.lg
 rcases e with (e | e | e) | e
 ·
  omega
 ·
  omega
 ·
  obtain ⟨v, xs, -, v2, v3⟩ := h.fs.p0
  have := (v3.lt q (by rw [v2]; exact e)).2
  omega
 ·
  omega
theorem one_part (w : World) (L : List UInt8) (p : Addr) (c : Nat) (hb : Rb w (some p) L) : Pts (w.alloc (.cells #[.slice (some p) L.length c] 66)) w.heap.size [L] := by
 intro k hk
 have hk0 : k = 0 := by simp at hk; exact hk
 subst hk0
 exact ⟨p, c, by go_simp, hb.gr (Gr.alloc (Gr.refl w) _)⟩
theorem FiM.tch {w : World} {X F P M : Nat} {R : Option Nat} {room : Int} {n ag xf b c : Nat} {m : Arcs} {g d : Nat} {D : List UInt8} (h : FiM w X F P M R room n ag xf b c m g d D) {Rq : Option Nat} {Z : Nat} (hRq : ∀ z, Rq = some z → R = some z ∨ Z ≤ z) {q : Nat} (hq : w.heap.size ≤ q) (hz : q < Z) : ¬ Tch P M Rq q := fun e => by
 rcases e with e | e | e
 ·
  exact h.old hq (.inl (.inl e))
 ·
  exact h.old hq (.inl (.inr (.inl e)))
 ·
  rcases hRq q e with e | e
  ·
   exact h.old hq (.inl (.inr (.inr e)))
  ·
   omega
set_option maxRecDepth 100000 in
set_option maxHeartbeats 6400000 in
theorem wwrites_any {X F P M : Nat} {R : Option Nat} {room : Int} {n ag xf b c : Nat} {m : Arcs} {g d : Nat} {D : List UInt8} (i : Nat) (hi : i < m.length) (t v : Int) (ht0 : 0 ≤ t) (ht : t ≤ 4611686018427387904) (hn : n ≤ 999000) (w : World) (h : FiM w X F P M R room n ag xf b c m g d D) : Calls Try.prog 47 #[.pointer (some ⟨X, 0, none⟩), .int .i64 i, .agg #[.int .i64 t, .int .i64 v]] w fun e w' => e = .returned (.tuple #[]) ∧ ∃ R', FiM w' X F P M R' room (n + 3) ag xf b c m g d (layS m D i t v) ∧ Kp (Tcg P M R g) w w' ∧ ∀ j, R' = some j → R = some j ∨ w.heap.size ≤ j := by
 obtain ⟨V, hV⟩ : ∃ V, V = w.alloc (.cells #[.int .i64 t, .int .i64 v] 26) := ⟨_, rfl⟩
 have gV : Gr w V := by rw [hV]; exact Gr.alloc (Gr.refl w) _
 have hz : w.heap.size < V.heap.size := by rw [hV]; simp
 have b0 : V.cell? ⟨w.heap.size, 0, none⟩ = some (.int .i64 t) := by rw [hV]; go_simp
 have b1 : V.cell? ⟨w.heap.size, 1, none⟩ = some (.int .i64 v) := by rw [hV]; go_simp
 have hF := MayF.ofH h.may
 have hpl := fun W (gW : Gr V W) => wplace_any i hi t (by omega) W ((h.gr gV).gr gW)
 have hwr := fun W => writes_any t v W
 obtain ⟨k, hk⟩ : ∃ k, k = atS m i t := ⟨_, rfl⟩
 have hlay : layS m D i t v = wrS D k t v 3 := by unfold layS; rw [← hk, wrS_end t v (by rw [hk, h.len]; exact (atS_in hF hi t).2)]
 have hk12 : k + 12 ≤ D.length := by rw [hk, h.len]; exact (atS_in hF hi t).2
 have hDl : (D.length : Int) ≤ 1048576 := by have := h.len; have := hF.sz; omega
 rw [hlay]
 rw [← hk] at hpl
 have HV := Lib.hid hV
 have HPL := Lib.hid hpl
 have HWR := Lib.hid hwr
 have H0 := Lib.hid h
 have HGV := Lib.hid gV
 have HK12 := Lib.hid hk12
 clear hV gV h hF hpl hwr hk hlay hk12 hi ht0 ht
 go_enter Try.func47, Try.ntmps47
 go_upto_region 1 with (fail)
 rw [← HV.out]
 clear HV
 go_upto_region 3 with (first | (go_at_call 49; refine (HPL.out _ (Gr.refl _)).mono ?_; rintro e w1 ⟨rfl, g1⟩; have c0 := (Below.cell g1 (p := ⟨w.heap.size, 0, none⟩) hz).trans b0; have c1 := (Below.cell g1 (p := ⟨w.heap.size, 1, none⟩) hz).trans b1; have HG1 := Lib.hid g1; clear g1) | (go_at_call 60; refine (HWR.out _).mono ?_; rintro e w2 ⟨B, A0, A1, A2, k1, k2, rfl, ⟨⟨y0, y1, y2, hBz⟩, hBf⟩, r0, r1, r2, g2⟩; have HG2 := Lib.hid (HG1.out.trans g2); have HRR := Lib.hid (And.intro r0 (And.intro r1 r2)); have HBF := Lib.hid (Nat.le_trans (HG1.out.size) hBf); have HG12 := Lib.hid g2; clear g2 r0 r1 r2 hBf))
 obtain ⟨V3, hV3⟩ : ∃ V3, V3 = w2.alloc (.cells #[.int .i64 0, .int .i64 4, .int .i64 0] 3) := ⟨_, rfl⟩
 have g3 : Gr w2 V3 := by rw [hV3]; exact Gr.alloc (Gr.refl w2) _
 have hz3 : w2.heap.size < V3.heap.size := by rw [hV3]; simp
 have z0 : V3.cell? ⟨w2.heap.size, 0, none⟩ = some (.int .i64 0) := by rw [hV3]; go_simp
 have z1 : V3.cell? ⟨w2.heap.size, 1, none⟩ = some (.int .i64 4) := by rw [hV3]; go_simp
 have z2 : V3.cell? ⟨w2.heap.size, 2, none⟩ = some (.int .i64 0) := by rw [hV3]; go_simp
 have hV0 : w.heap.size ≤ w1.heap.size := Nat.le_trans HGV.out.size HG1.out.size
 have HTH : Hid (Thr V3 B w2.heap.size w.heap.size k t v) := Lib.hid (Thr.of ((Below.cell g3 (p := ⟨B, 0, none⟩) hBz).trans y0) ((Below.cell g3 (p := ⟨B, 1, none⟩) hBz).trans y1) ((Below.cell g3 (p := ⟨B, 2, none⟩) hBz).trans y2) z0 z1 z2 ⟨HRR.out.1.1.gr g3, fun ad e => Nat.le_trans hV0 (HRR.out.1.2 ad e)⟩ ⟨HRR.out.2.1.1.gr g3, fun ad e => Nat.le_trans hV0 (HRR.out.2.1.2 ad e)⟩ ⟨HRR.out.2.2.1.gr g3, fun ad e => Nat.le_trans hV0 (HRR.out.2.2.2 ad e)⟩)
 have HGG := Lib.hid ((HGV.out.trans HG2.out).trans g3)
 have HBZ : Hid ((B < V3.heap.size ∧ w.heap.size ≤ B) ∧ (w2.heap.size < V3.heap.size ∧ w.heap.size ≤ w2.heap.size)) := Lib.hid ⟨⟨Nat.lt_of_lt_of_le hBz g3.size, Nat.le_trans HGV.out.size HBF.out⟩, hz3, (HGV.out.trans HG2.out).size⟩
 have HV3 := Lib.hid hV3
 obtain ⟨C, hC⟩ : ∃ C, C = w2.heap.size := ⟨_, rfl⟩
 rw [← hC] at HTH HBZ
 have HC := Lib.hid hC
 clear hV3 g3 hz3 z0 z1 z2 y0 y1 y2 hBz hV0 c0 c1 hC b0 b1
 go_wp2
 rw [← HV3.out, ← HC.out]
 clear HV3 HC
 go_loopw [19] (fun j wr => ∃ q : Nat, q ≤ 3 ∧ j = .int .i64 q ∧ ∃ Rq, FiM wr X F P M Rq room (n + q) ag xf b c m g d (wrS D k t v q) ∧ Kp (Tcg P M R g) V3 wr ∧ ∀ z, Rq = some z → R = some z ∨ V3.heap.size ≤ z) (fun j _ => 3 - (intOf j).toNat)
 case atStart => exact ⟨0, Nat.zero_le _, rfl, R, H0.out.gr HGG.out, Kp.refl _ _, fun z hz => .inl hz⟩
 case round =>
  obtain ⟨q, hq, rfl, Rq, hfi, hkp, hRq⟩ := hrel
  by_cases hq3 : q < 3
  ·
   have hqi : (q : Int) < 3 := by omega
   obtain ⟨fr, ad, L, cc, t0, t1, t2, t3, t4, t5, t6⟩ := HTH.out q hq3
   have hoC := H0.out.old HBZ.out.2.2
   have hoB := H0.out.old HBZ.out.1.2
   have y0 := (hkp.cell (a := ⟨C, q, none⟩) HBZ.out.2.1 hoC).trans t0
   have y1 := (hkp.cell (a := ⟨B, q, none⟩) HBZ.out.1.1 hoB).trans t1
   have hadl : ad.block < V3.heap.size := by
    obtain ⟨ad', e, hb, -⟩ := t2.2 (by omega)
    injection e with e
    subst e
    exact hb
   have yr : Rb wr (some ad) L := hkp.rd t2 (fun _ a' e => by injection e with e; subst e; exact H0.out.old t3)
   have hBz : B < wr.heap.size := Nat.lt_of_lt_of_le HBZ.out.1.1 hkp.size
   have HBz := Lib.hid hBz
   have HYR := Lib.hid yr
   have HFI := Lib.hid hfi
   have HKP := Lib.hid (And.intro hkp hRq)
   have HT6 := Lib.hid (t6 D)
   have HTN := Lib.hid (H0.out.tch hRq t3 hadl)
   have HL0 := Lib.hid t4
   have hlen : (wrS D k t v q).length = D.length := wrS_len t v HK12.out q
   obtain ⟨o, ho⟩ : ∃ o, o = k + fr := ⟨_, rfl⟩
   have hoi : (k : Int) + (fr : Int) = (o : Int) := by omega
   have hfit : o + L.length ≤ D.length := by have := HK12.out; omega
   rw [← ho] at HT6
   have hfi4 : (fr : Int) ≤ 12 := by omega
   have hki : (k : Int) ≤ 1048576 := by have := HK12.out; omega
   have hw1 : IntKind.i64.wrap ((k : Int) + (fr : Int)) = (o : Int) := by rw [← hoi]; exact IntWalk.i64_in _ (by omega)
   have hwo : IntKind.i64.wrap (o : Int) = (o : Int) := IntWalk.i64_in _ (by omega)
   have HO := Lib.hid (And.intro hfit (And.intro hlen hDl))
   have hs4 : (L.length : Int) ≤ 12 := by omega
   clear t0 t1 t2 t3 t4 t5 t6 hoC hoB hkp hRq hfi yr hadl hBz ho hlen hfit
   go_upto_region 6 with (fail)
   refine wp_region_Z 16 (Gr wr) (by kernel_rfl) ?_
   have hS0 : Gr wr wr.drew := Gr.drew (Gr.refl _)
   obtain ⟨w5, hw5⟩ : ∃ w5, w5 = wr.drew := ⟨_, rfl⟩
   rw [← hw5] at hS0 ⊢
   clear hw5
   refine wpAnyZ_take (i := 0) (v := ?v1) rfl (by kernel_rfl) (fun _ _ _ h => h) (by rfl) (fun W hS => ?h1) hS0 ?r1
   case h1 => go_simp; rfl
   simp only [Act.put, List.getElem_toArray, List.getElem_cons_succ, List.getElem_cons_zero, List.setIfInBounds_toArray, List.set_cons_zero, List.set_cons_succ]
   refine wpAnyZ_take (i := 1) (v := ?v2) rfl (by kernel_rfl) (fun _ _ _ h => h) (by rfl) (fun W hS => ?h2) hS0 ?r2
   case h2 => go_simp; rfl
   simp only [Act.put, List.getElem_toArray, List.getElem_cons_succ, List.getElem_cons_zero, List.setIfInBounds_toArray, List.set_cons_zero, List.set_cons_succ]
   refine wpAnyZ_take (i := 2) (v := ?v3) rfl (by kernel_rfl) (fun _ _ _ h => h) (by rfl) (fun W hS => ?h3) hS0 ?r3
   case h3 => go_simp; rfl
   simp only [Act.put, List.getElem_toArray, List.getElem_cons_succ, List.getElem_cons_zero, List.setIfInBounds_toArray, List.set_cons_zero, List.set_cons_succ]
   refine wpAnyZ_take (i := 3) (v := ?v4) rfl (by kernel_rfl) (fun _ _ _ h => h) (by rfl) (fun W hS => ?h4) hS0 ?r4
   case h4 => have s := HFI.out.gr hS; have s3 := s.x3; have s4 := s.x4; go_simp; rfl
   simp only [Act.put, List.getElem_toArray, List.getElem_cons_succ, List.getElem_cons_zero, List.setIfInBounds_toArray, List.set_cons_zero, List.set_cons_succ]
   refine wpAnyZ_take (i := 4) (v := ?v5) rfl (by kernel_rfl) (fun _ _ _ h => h) (by rfl) (fun W hS => ?h5) hS0 ?r5
   case h5 => go_simp; rfl
   simp only [Act.put, List.getElem_toArray, List.getElem_cons_succ, List.getElem_cons_zero, List.setIfInBounds_toArray, List.set_cons_zero, List.set_cons_succ]
   refine wpAnyZ_take (i := 5) (v := ?v6) rfl (by kernel_rfl) (fun _ _ _ h => h) (by rfl) (fun W hS => ?h6) hS0 ?r6
   case h6 => go_simp; rfl
   simp only [Act.put, List.getElem_toArray, List.getElem_cons_succ, List.getElem_cons_zero, List.setIfInBounds_toArray, List.set_cons_zero, List.set_cons_succ]
   refine wpAnyZ_take (i := 6) (v := ?v7) rfl (by kernel_rfl) (fun _ _ _ h => h) (by rfl) (fun W hS => ?h7) hS0 ?r7
   case h7 => go_simp; rfl
   simp only [Act.put, List.getElem_toArray, List.getElem_cons_succ, List.getElem_cons_zero, List.setIfInBounds_toArray, List.set_cons_zero, List.set_cons_succ]
   refine wpAnyZ_take (i := 7) (v := ?v8) rfl (by kernel_rfl) (fun _ _ _ h => h) (by rfl) (fun W hS => ?h8) hS0 ?r8
   case h8 => have s := HFI.out.gr hS; have s3 := s.x3; have s4 := s.x4; go_simp; rfl
   simp only [Act.put, List.getElem_toArray, List.getElem_cons_succ, List.getElem_cons_zero, List.setIfInBounds_toArray, List.set_cons_zero, List.set_cons_succ]
   refine wpAnyZ_take (i := 8) (v := ?v9) rfl (by kernel_rfl) (fun _ _ _ h => h) (by rfl) (fun W hS => ?h9) hS0 ?r9
   case h9 => go_simp; rfl
   simp only [Act.put, List.getElem_toArray, List.getElem_cons_succ, List.getElem_cons_zero, List.setIfInBounds_toArray, List.set_cons_zero, List.set_cons_succ]
   refine wpAnyZ_take (i := 9) (v := ?v10) rfl (by kernel_rfl) (fun _ _ _ h => h) (by rfl) (fun W hS => ?h10) hS0 ?r10
   case h10 => go_simp; rfl
   simp only [Act.put, List.getElem_toArray, List.getElem_cons_succ, List.getElem_cons_zero, List.setIfInBounds_toArray, List.set_cons_zero, List.set_cons_succ]
   refine wpAnyZ_take (i := 10) (v := ?v11) rfl (by kernel_rfl) (fun _ _ _ h => h) (by rfl) (fun W hS => ?h11) hS0 ?r11
   case h11 => go_simp; rfl
   simp only [Act.put, List.getElem_toArray, List.getElem_cons_succ, List.getElem_cons_zero, List.setIfInBounds_toArray, List.set_cons_zero, List.set_cons_succ]
   refine wpAnyZ_take (i := 11) (v := ?v12) rfl (by kernel_rfl) (fun _ _ _ h => h) (by rfl) (fun W hS => ?h12) hS0 ?r12
   case h12 => go_simp; rfl
   simp only [Act.put, List.getElem_toArray, List.getElem_cons_succ, List.getElem_cons_zero, List.setIfInBounds_toArray, List.set_cons_zero, List.set_cons_succ]
   refine wpAnyZ_take (i := 12) (v := ?v13) rfl (by kernel_rfl) (fun _ _ _ h => h) (by rfl) (fun W hS => ?h13) hS0 ?r13
   case h13 => go_simp; rfl
   simp only [Act.put, List.getElem_toArray, List.getElem_cons_succ, List.getElem_cons_zero, List.setIfInBounds_toArray, List.set_cons_zero, List.set_cons_succ]
   refine wpAnyZ_take (i := 13) (v := ?v14) rfl (by kernel_rfl) (fun _ _ _ h => h) (by rfl) (fun W hS => ?h14) hS0 ?r14
   case h14 => go_simp; rfl
   simp only [Act.put, List.getElem_toArray, List.getElem_cons_succ, List.getElem_cons_zero, List.setIfInBounds_toArray, List.set_cons_zero, List.set_cons_succ]
   refine wpAnyZ_take (i := 14) (v := ?v15) rfl (by kernel_rfl) (fun _ _ _ h => h) (by rfl) (fun W hS => ?h15) hS0 ?r15
   case h15 => have c1 := (Below.cell hS (p := ⟨B, q, none⟩) HBz.out).trans y1; go_simp; rfl
   simp only [Act.put, List.getElem_toArray, List.getElem_cons_succ, List.getElem_cons_zero, List.setIfInBounds_toArray, List.set_cons_zero, List.set_cons_succ]
   have HG5 := Lib.hid hS0
   refine wpAnyZ_ready (rs := [15]) (by kernel_rfl) (by simp) ?_
   refine AllReadyZ.cons (i := 15) rfl (by kernel_rfl) ?zx1 AllReadyZ.nil
   intro K hK
   simp only [List.getElem_toArray, List.getElem_cons_succ, List.getElem_cons_zero]
   go_simp
   refine hK.out _ _ (fun hnz => ?zs2) (fun _ => ?zr3)
   case zs2 => exact Gr.alloc HG5.out _
   clear hK K
   try (simp only [Pu, List.getElem_toArray, List.getElem_cons_succ, List.getElem_cons_zero])
   refine wpAnyZ_ready (rs := [16]) (by kernel_rfl) (by simp) ?_
   refine AllReadyZ.cons (i := 16) rfl (by kernel_rfl) ?zx4 AllReadyZ.nil
   intro K hK
   simp only [List.getElem_toArray, List.getElem_cons_succ, List.getElem_cons_zero]
   go_simp
   refine (writeAt_any (wrS D k t v q) L o w5.heap.size 1 (by rw [HO.out.2.1]; omega) HL0.out (by rw [HO.out.2.1]; exact HO.out.1) (by omega) _ ((HFI.out.fs.gr HG5.out).gr (Gr.alloc (Gr.refl w5) _)) (one_part w5 L ad cc (HYR.out.gr HG5.out))).mono ?_
   rintro e w6 ⟨rfl, R6, hF6, hK6, hR6⟩
   have H6 := Lib.hid (And.intro hF6 (And.intro ((Kp.of_gr (Tch P M Rq) (HG5.out.alloc _)).trans hK6 (fun _ _ e => e)) (fun z hz => (hR6 z hz).imp id (fun e => Nat.le_trans (HG5.out.alloc _).size e))))
   clear hF6 hK6 hR6 hS0
   go_wp2_with fail
   refine hK.out _ _ (fun hnz => ?zs5) (fun _ => ?zr6)
   case zs5 => exact absurd rfl hnz
   clear hK K
   try (simp only [Pu, List.getElem_toArray, List.getElem_cons_succ, List.getElem_cons_zero])
   refine wpAnyZ_done (by kernel_rfl) ?_ _
   have hK6 := H6.out.2.1
   have nX := HFI.out.nX
   have ng := HFI.out.ng
   have x5 := (hK6.cell (a := ⟨X, 5, none⟩) HFI.out.lX (fun e => by rcases e with e | e | e; exact nX.2.1 e; exact nX.2.2.1 e; exact nX.2.2.2.2 e)).trans HFI.out.x5
   rw [HO.out.2.1] at x5
   have HX6 := Lib.hid (Nat.lt_of_lt_of_le HFI.out.lX hK6.size)
   have nB := H0.out.tch HKP.out.2 HBZ.out.1.2 HBZ.out.1.1
   have y6 := (hK6.cell (a := ⟨B, q, none⟩) HBz.out nB).trans y1
   have HB6 := Lib.hid (Nat.lt_of_lt_of_le HBz.out hK6.size)
   have HY6 := Lib.hid (hK6.rd HYR.out (fun _ a' e => by injection e with e; subst e; exact HTN.out))
   have HO6 := Lib.hid (hK6.own HFI.out.row (fun z e => by injection e with e; subst e; exact fun e => by rcases e with e | e | e; exact ng.2.1 e; exact ng.2.2.1 e; exact ng.2.2.2 e))
   have hoD : (o : Int) ≤ (D.length : Int) := by have := HO.out.1; omega
   have hcd : (D.length : Int) ≤ (d : Int) := by have h := own_capA HFI.out.row; rw [HO.out.2.1] at h; omega
   have hod : (o : Int) ≤ (d : Int) := by omega
   have hdo : ¬ d = o := by have := HL0.out; have := HO.out.1; omega
   clear hK6 nX ng nB y0 y1
   go_upto_region 7 with (fail)
   refine region_T 12 (by kernel_rfl) (by kernel_rfl) ?_
   simp only [List.take]
   iterate 3 (refine q_val (v := ?_) (by rfl) (fun W hW => ?_) ?_; rotate_left; (focus go_simp; rfl); simp only [Pu])
   refine q_val (v := ?qv4) (by rfl) (fun W hW => ?qh4) ?qr4
   case qh4 => have s5 := (Below.cell hW (p := ⟨X, 5, none⟩) HX6.out).trans x5; go_simp; rfl
   simp only [Pu]
   iterate 7 (refine q_val (v := ?_) (by rfl) (fun W hW => ?_) ?_; rotate_left; (focus go_simp; rfl); simp only [Pu])
   refine q_val (v := ?qv12) (by rfl) (fun W hW => ?qh12) ?qr12
   case qh12 => have c1 := (Below.cell hW (p := ⟨B, q, none⟩) HB6.out).trans y6; go_simp; rfl
   simp only [Pu]
   refine wpQuiet_nil ?_
   intro w7 hw7
   simp only [List.drop]
   have HG7 := Lib.hid hw7
   clear hw7
   refine wpList_copy_put rfl (.tmp 48) (.tmp 52) 66 66 rfl 5 Try.underlying66 info_one 0 g o d (d - o) cc (wrS D k t v q) L ad (by rw [HO.out.2.1]; rfl) rfl (own_grU HO6.out HG7.out) (HY6.out.gr HG7.out) HL0.out (by rw [HO.out.2.1]; exact HO.out.1) ?_
   intro w8 HO8 HK8
   have HFIN : Hid (FiM w8 X F P M R6 room (n + (q + 1)) ag xf b c m g d (wrS D k t v (q + 1)) ∧ Kp (Tcg P M R g) V3 w8 ∧ ∀ z, R6 = some z → R = some z ∨ V3.heap.size ≤ z) := Lib.hid (by
    have hl2 : (putB (wrS D k t v q) o L).length = (wrS D k t v q).length := putB_len (by rw [HO.out.2.1]; exact HO.out.1)
    obtain ⟨f1, f2⟩ := HFI.out.turn (H6.out.2.1.trans (Kp.of_gr (Tch P M Rq) HG7.out) (fun _ _ e => e)) (H6.out.1.gr HG7.out) H6.out.2.2 HK8.out hl2 (by rw [hl2]; exact HO8.out)
    refine ⟨by rw [HT6.out, ← Nat.add_assoc]; exact f1, HKP.out.1.trans f2 (fun z hz e => ?_), fun z hz => ?_⟩
    ·
     rcases e with (e | e | e) | e
     ·
      exact .inl (.inl e)
     ·
      exact .inl (.inr (.inl e))
     ·
      rcases HKP.out.2 z e with e | e
      ·
       exact .inl (.inr (.inr e))
      ·
       omega
     ·
      exact .inr e
    ·
     rcases H6.out.2.2 z hz with e | e
     ·
      exact HKP.out.2 z e
     ·
      exact .inr (Nat.le_trans HKP.out.1.size e))
   clear x5 y6
   go_wp2
   go_roundw
   case rel => exact ⟨q + 1, by omega, by go_num, R6, HFIN.out⟩
   case measure => simp [intOf]; omega
  ·
   have hq3 : q = 3 := by omega
   subst hq3
   have HF := Lib.hid (And.intro hfi (And.intro ((Kp.of_gr (Tcg P M R g) HGG.out).trans hkp (fun _ _ e => e)) (fun z hz => (hRq z hz).imp id (fun e => Nat.le_trans HGG.out.size e))))
   clear hfi hkp hRq
   go_wp2
   go_end0
   exact ⟨rfl, Rq, HF.out⟩
end Go.Proofs.Ytoncapkmaeghfaa
