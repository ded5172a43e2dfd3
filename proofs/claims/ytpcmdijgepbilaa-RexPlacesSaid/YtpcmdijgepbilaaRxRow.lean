/- The contract of rex.reader.row. -/
import Derived.Test.YtpcmdijgepbilaaRxRowA
namespace Go.Proofs.Ytpcmdijgepbilaa
set_option linter.unusedVariables false
set_option linter.unusedSimpArgs false
open Go.RowKit

theorem own_gx {w w' : World} {R base : Nat} {e : TypeId} {size n : Nat} {v : Value} {xs : List Value} (h : w.ownsRow base e size v n xs) (x : GX R w w') (hR : R < base) : w'.ownsRow base e size v n xs := by
  obtain ⟨h1, ⟨hv, h0⟩ | ⟨g', cap, cur, hv, hb, hh, h2⟩⟩ := h
  · exact ⟨h1, .inl ⟨hv, h0⟩⟩
  · exact ⟨h1, .inr ⟨g', cap, cur, hv, hb, (x.block g' (Array.getElem?_eq_some_iff.1 hh).1 (by omega)).trans hh, h2⟩⟩
theorem GX.grown {R : Nat} {w0 w w' : World} {row : Option Nat} (x : GX R w0 w) (g : w.grownBy w' row) (hr : ∀ j, row = some j → w0.heap.size ≤ j) : GX R w0 w' := by
  have x' := x
  obtain ⟨g1, g2, g3, g4, g5⟩ := g
  refine ⟨g1.trans x.os, g2.trans x.tape, g3.trans x.output, Nat.le_trans x.size g4, fun i hi hn => (g5 i (Nat.lt_of_lt_of_le hi x.size) (fun e => ?_)).trans (x.block i hi hn)⟩
  have := hr i e.symm
  omega
theorem Rdr.grown {w w' : World} {R n : Nat} {s : ByteArray} {q : Rs} {row : Option Nat} (h : Rdr w R s n q) (x : w.grownBy w' row) (hn : row ≠ some R) : Rdr w' R s n q := by
  have e : w'.heap[R]? = w.heap[R]? := x.block R h.lt (fun e => hn e.symm)
  have hx : ∀ i, w'.cell? ⟨R, i, none⟩ = w.cell? ⟨R, i, none⟩ := fun i => World.cell?_of_block (a := ⟨R, i, none⟩) e
  have hy : ∀ i, w'.frozen? ⟨R, i, none⟩ = w.frozen? ⟨R, i, none⟩ := fun i => World.frozen?_of_block (a := ⟨R, i, none⟩) e
  exact ⟨h.len, h.rest, (hx 0).trans h.c0, (hx 1).trans h.c1, (hx 2).trans h.c2, (hx 3).trans h.c3, (hx 4).trans h.c4, (hx 5).trans h.c5, (hy 1).trans h.f1, (hy 2).trans h.f2, (hy 3).trans h.f3, (hy 4).trans h.f4, (hy 5).trans h.f5, Nat.lt_of_lt_of_le h.lt x.size⟩
theorem NS.set {P k c k' c' : Nat} {A A' : Option Addr} {W : World} (h : NS P A k c W) : NS P A' k' c' (W.setCell ⟨P, 2, none⟩ (.slice A' k' c')) := by
  obtain ⟨⟨n0, n1, n2, n3, n4⟩, hf, hz⟩ := h
  refine ⟨⟨(World.cell?_setCell_other W ⟨P, 2, none⟩ ⟨P, 0, none⟩ _ (by simp)).trans n0, (World.cell?_setCell_other W ⟨P, 2, none⟩ ⟨P, 1, none⟩ _ (by simp)).trans n1, ?_, (World.cell?_setCell_other W ⟨P, 2, none⟩ ⟨P, 3, none⟩ _ (by simp)).trans n3, (World.cell?_setCell_other W ⟨P, 2, none⟩ ⟨P, 4, none⟩ _ (by simp)).trans n4⟩, by simpa using hf, by simpa using hz⟩
  go_simp
theorem Kids.set {B : Nat} {g : Option Nat} {w : World} {l : List Pc} {bs : List Nat} (h : Kids (some B) g w l bs) (u : Value) (i : Nat) : Kids (some B) g (w.setCell ⟨B, i, none⟩ u) l bs :=
  ⟨h.1, fun j hj hj' => by
    obtain ⟨lo, hi, k, kb, kh, kg⟩ := h.2 j hj hj'
    exact ⟨lo, hi, Pc.In.same (Same.set kh (.inl (kb B rfl)) u) _ _ k, kb, by simpa using kh, kg⟩⟩
/-- how row goes on: its own piece at P, the kids that there are. -/
structure RowI (R : Nat) (w0 : World) (s : ByteArray) (Wf : Rs → Pc × Rs) (T : PcL × Rs) (P : Nat) (wr : World) (m : Nat) (q : Rs) (k N c : Nat) (A : Option Addr) (l : List Pc) (bs : List Nat) : Prop where
  h : Rdr wr R s m q
  x : GX R w0 wr
  ns : NS P A N c wr
  own : wr.ownsRow (P + 1) 46 1 (.slice A N c) N (ptrs bs)
  kids : Kids (some P) (Value.slice A N c).ownBlock wr l bs
  hN : N = bs.length
  hP : w0.heap.size ≤ P
  hc : Hid ((PcL.ofList l).app (rowS Wf k q).1 = T.1 ∧ (rowS Wf k q).2 = T.2)
theorem RowI.ret {R : Nat} {w0 : World} {s : ByteArray} {Wf : Rs → Pc × Rs} {T : PcL × Rs} {P : Nat} {wr : World} {m : Nat} {q : Rs} {k N c : Nat} {A : Option Addr} {l : List Pc} {bs : List Nat}
    (I : RowI R w0 s Wf T P wr m q k N c A l bs) (hR : R < w0.heap.size) (e : rowS Wf k q = (.nil, q)) : RetP R s w0 (.row T.1) T.2 (.returned (.pointer (some ⟨P, 0, none⟩))) wr := by
  have hc := I.hc.out
  rw [e] at hc
  simp only [PcL.app_nil] at hc
  rw [← hc.1, ← hc.2]
  refine ⟨P, m, rfl, ?_, I.x, I.h⟩
  have hP := I.hP
  have hN := I.hN
  simp only [Pc.In]
  refine ⟨by omega, I.ns.2.2, .slice A N c, bs, I.ns.1, ⟨A, c, by rw [hN], ?_, fun h0 ad ha => ?_⟩, PcL.In.wide (by omega) (Nat.le_refl _) _ _ I.kids.list⟩
  · have := Rd.own I.own
    rw [hN] at this
    exact this
  · obtain ⟨_, ⟨hv, h0'⟩ | ⟨g', cap, cur, hv, hb, hh, _⟩⟩ := I.own
    · omega
    · injection hv with hv1 _ _
      rw [ha] at hv1
      injection hv1 with hv1
      subst hv1
      exact ⟨by show w0.heap.size - 1 < g'; omega, (Array.getElem?_eq_some_iff.1 hh).1⟩

theorem RowI.gr {R : Nat} {w0 : World} {s : ByteArray} {Wf : Rs → Pc × Rs} {T : PcL × Rs} {P : Nat} {wr w' : World} {m : Nat} {q : Rs} {k N c : Nat} {A : Option Addr} {l : List Pc} {bs : List Nat}
    (I : RowI R w0 s Wf T P wr m q k N c A l bs) (g : Gr wr w') : RowI R w0 s Wf T P w' m q k N c A l bs :=
  ⟨I.h.gr g, I.x.trans (GX.of_gr g), I.ns.gr g, own_gx I.own (GX.of_gr (R := P) g) (Nat.lt_succ_self _), I.kids.gr g, I.hN, I.hP, I.hc⟩
set_option maxRecDepth 100000 in
set_option maxHeartbeats 3200000 in
theorem row_any {w : World} {R n0 : Nat} {s : ByteArray} {q : Rs} (Wf : Rs → Pc × Rs) (hWf : ∀ s, Gd 0 s (Wf s).2) (h : Rdr w R s n0 q) (hs : (s.size : Int) ≤ 4096) (n : Nat) (hn : q.rest.length ≤ n) (hB : Bd q)
    (HP : ∀ W m q c r, Rdr W R s m q → q.rest = c :: r → q.rest.length ≤ n → Bd q → Calls Try.prog 28 #[.pointer (some ⟨R, 0, none⟩)] W (RetP R s W (pieceS Wf q).1 (pieceS Wf q).2)) :
    Calls Try.prog 19 #[.pointer (some ⟨R, 0, none⟩)] w (RetP R s w (rowP Wf q).1 (rowP Wf q).2) := by
  obtain ⟨i0, hi0, hz0, hz1, hz2⟩ := info_parts info_ptr
  unfold rowP
  obtain ⟨T, hT⟩ : ∃ T, rowS Wf (q.rest.length + 1) q = T := ⟨_, rfl⟩
  rw [hT]
  have hR := h.lt
  have I0 : RowI R w s Wf T w.heap.size (w.alloc (.cells #[.int .i64 10, .string ⟨#[]⟩, .slice none 0 0, .int .i64 0, .bool false] 62)) n0 q (q.rest.length + 1) 0 0 none [] [] :=
    ⟨h.gr (Gr.alloc (Gr.refl w) _), GX.of_gr (Gr.alloc (Gr.refl w) _), ⟨node_new w 10 0 [] _ false, by go_simp, by simp⟩, World.ownsRow_nil _ _ _ _, Kids.nil _ _ _, rfl, Nat.le_refl _, Lib.hid (by rw [hT]; exact ⟨rfl, rfl⟩)⟩
  generalize hPP : w.heap.size = P at I0
  clear hT
  go_enter Try.func19, Try.ntmps19
  go_upto_region 2 with (fail)
  generalize (w.alloc (.cells #[.int .i64 10, .string ⟨#[]⟩, .slice none 0 0, .int .i64 0, .bool false] 62)) = w1 at I0 ⊢
  go_loopw [] (fun wr => ∃ m q k N c A l bs, RowI R w s Wf T P wr m q k N c A l bs ∧ q.rest.length < k ∧ q.rest.length ≤ n ∧ Bd q ∧ N ≤ m) (fun wr => s.size - rdN R wr)
  case atStart => exact ⟨n0, q, _, 0, 0, none, [], [], I0, Nat.lt_succ_self _, hn, hB, Nat.zero_le _⟩
  case round =>
    clear I0 hn hB h
    obtain ⟨m, q, k, N, c, A, l, bs, I, hk, hqn, hB, hNm⟩ := hrel
    obtain ⟨k, rfl⟩ : ∃ j, k = j + 1 := ⟨k - 1, by omega⟩
    have Hmn := Lib.hid I.h.n
    have hlen := I.h.len
    obtain ⟨c4, f4⟩ := And.intro I.h.c4 I.h.f4
    rcases Bool.eq_false_or_eq_true q.bad with hb | hb
    · rw [hb] at c4
      go_wp2
      have e1 : rowS Wf (k + 1) q = (.nil, q) := by
        unfold rowS
        rw [hb]
        rfl
      go_ret
      exact I.ret hR e1
    · rw [hb] at c4
      rcases hq : q.rest with _ | ⟨d, r⟩
      · have QN := now_end I.h hs hq
        go_wp2_with (go_at_call 27; refine QN.mono ?_; rintro e w4 ⟨rfl, g4⟩)
        have I := I.gr g4
        have e1 : rowS Wf (k + 1) q = (.nil, q) := by
          unfold rowS
          rw [hb, hq]
          rfl
        go_ret
        exact I.ret hR e1
      · have QN := now_some I.h hs hq
        by_cases h124 : d.toNat = 124
        · simp only [h124] at QN
          go_wp2_with (go_at_call 27; refine QN.mono ?_; rintro e w4 ⟨rfl, g4⟩)
          have I := I.gr g4
          have e1 : rowS Wf (k + 1) q = (.nil, q) := by
            unfold rowS
            rw [hb, hq, show endR (d :: r) = true by simp [endR, h124]]
            rfl
          go_ret
          exact I.ret hR e1
        · by_cases h41 : d.toNat = 41
          · simp only [h41] at QN
            go_wp2_with (go_at_call 27; refine QN.mono ?_; rintro e w4 ⟨rfl, g4⟩)
            have I := I.gr g4
            have e1 : rowS Wf (k + 1) q = (.nil, q) := by
              unfold rowS
              rw [hb, hq, show endR (d :: r) = true by simp [endR, h41]]
              rfl
            go_ret
            exact I.ret hR e1
          · have hend : endR (d :: r) = false := by simp [endR, h124, h41]
            have k124 : ((d.toNat : Int) == 124) = false := beq_eq_false_iff_ne.2 (by omega)
            have k41 : ((d.toNat : Int) == 41) = false := beq_eq_false_iff_ne.2 (by omega)
            have e1 : rowS Wf (k + 1) q = (.cons (pieceS Wf q).1 (rowS Wf k (pieceS Wf q).2).1, (rowS Wf k (pieceS Wf q).2).2) := by
              conv => lhs; unfold rowS
              rw [hb, hq, hend]
              rfl
            go_upto_region 5 with (go_at_call 27; refine QN.mono ?_; rintro e w4 ⟨rfl, g4⟩)
            have I := (I.gr g4).gr (Gr.drew (Gr.refl _))
            obtain ⟨V, hV⟩ : ∃ V, V = w4.drew := ⟨_, rfl⟩
            refine wp_region_Z 11 (NS P A N c) (by kernel_rfl) ?_
            rw [← hV] at I ⊢
            clear hV g4 QN c4 f4
            obtain ⟨hpg, hpl⟩ := pieceS_gd hWf hq
            have hl1 : q.rest.length = r.length + 1 := by rw [hq]; rfl
            obtain ⟨hV2, xw0, hS0, own0, kids0, hN, hP, hc⟩ := I
            have HN := Lib.hid hN
            clear hN
            have hvo := own0.lt
            have hPR : P ≠ R := by omega
            have hPV := hS0.2.2
            refine wpAnyZ_take (i := 0) (v := ?v1) rfl (by kernel_rfl) (fun _ _ _ h => h) (by rfl) (fun W hS => ?h1) hS0 ?r1
            case h1 =>
              go_simp
              rfl
            simp only [Act.put, List.setIfInBounds_toArray, List.set_cons_zero, List.set_cons_succ]
            refine wpAnyZ_take (i := 1) (v := ?v2) rfl (by kernel_rfl) (fun _ _ _ h => h) (by rfl) (fun W hS => ?h2) hS0 ?r2
            case h2 =>
              go_simp
              rfl
            simp only [Act.put, List.setIfInBounds_toArray, List.set_cons_zero, List.set_cons_succ]
            refine wpAnyZ_take (i := 2) (v := ?v3) rfl (by kernel_rfl) (fun _ _ _ h => h) (by rfl) (fun W hS => ?h3) hS0 ?r3
            case h3 =>
              go_simp
              rfl
            simp only [Act.put, List.setIfInBounds_toArray, List.set_cons_zero, List.set_cons_succ]
            refine wpAnyZ_take (i := 3) (v := ?v4) rfl (by kernel_rfl) (fun _ _ _ h => h) (by rfl) (fun W hS => ?h4) hS0 ?r4
            case h4 =>
              go_simp
              rfl
            simp only [Act.put, List.setIfInBounds_toArray, List.set_cons_zero, List.set_cons_succ]
            refine wpAnyZ_take (i := 4) (v := ?v5) rfl (by kernel_rfl) (fun _ _ _ h => h) (by rfl) (fun W hS => ?h5) hS0 ?r5
            case h5 =>
              obtain ⟨⟨p0, p1, p2, p3, p4⟩, _, _⟩ := hS
              go_simp
              rfl
            simp only [Act.put, List.setIfInBounds_toArray, List.set_cons_zero, List.set_cons_succ]
            refine wpAnyZ_take (i := 5) (v := ?v6) rfl (by kernel_rfl) (fun _ _ _ h => h) (by rfl) (fun W hS => ?h6) hS0 ?r6
            case h6 =>
              go_simp
              rfl
            simp only [Act.put, List.setIfInBounds_toArray, List.set_cons_zero, List.set_cons_succ]
            refine wpAnyZ_ready (rs := [6]) (by kernel_rfl) (by simp) ?_
            refine AllReadyZ.cons rfl (by rfl) (fun K hK => ?_) ?_
            rotate_left
            exact AllReadyZ.nil
            go_simp
            refine (HP _ _ _ _ _ hV2 hq hqn hB).mono ?_; rintro e w5 ⟨b, m5, rfl, k5, x5, h5⟩
            have hS5 := hS0.gx x5 hPR
            have own5 := own_gx own0 x5 (by omega)
            have kids5 := kids0.gx x5 (by omega)
            have xw5 := xw0.trans x5
            have z5 := x5.size
            go_wp2_with fail
            refine hK.out _ _ (fun hnz => ?s7) (fun _ => ?r7)
            case s7 => exact hS5
            clear hK K
            try simp only [Act.put, List.setIfInBounds_toArray, List.set_cons_zero, List.set_cons_succ]
            refine wpAnyZ_ready (rs := [7]) (by kernel_rfl) (by simp) ?_
            refine AllReadyZ.cons rfl (by rfl) (fun K hK => ?_) ?_
            rotate_left
            exact AllReadyZ.nil
            have gA : Gr w5 (w5.alloc (.cells #[.pointer (some ⟨b, 0, none⟩)] 46)) := Gr.alloc (Gr.refl w5) _
            have hS6 := hS5.gr gA
            have own6 := own_gx own5 (GX.of_gr (R := R) gA) (by omega)
            have kids6 := kids5.gr gA
            have hrx : Rd (w5.alloc (.cells #[.pointer (some ⟨b, 0, none⟩)] 46)) 1 (some ⟨w5.heap.size, 0, none⟩) 1 (ptrs [b]) := Rd.byte (W := w5) rfl 46 (.pointer (some ⟨b, 0, none⟩))
            have k6 := Pc.In.same (Same.gr gA (Nat.le_refl _)) _ _ k5
            have xw6 := xw5.alloc (.cells #[.pointer (some ⟨b, 0, none⟩)] 46)
            have h6 := h5.gr gA
            have z6 : (w5.alloc (.cells #[.pointer (some ⟨b, 0, none⟩)] 46)).heap.size = w5.heap.size + 1 := by simp
            go_simp
            refine hK.out _ _ (fun hnz => ?s8) (fun _ => ?r8)
            case s8 => exact hS6
            clear hK K
            try simp only [Act.put, List.setIfInBounds_toArray, List.set_cons_zero, List.set_cons_succ]
            clear gA hS5 own5 kids5 k5 xw5 h5
            generalize (w5.alloc (.cells #[.pointer (some ⟨b, 0, none⟩)] 46)) = w6 at hS6 own6 kids6 hrx k6 xw6 h6 z6 ⊢
            refine wpAnyZ_ready (rs := [8]) (by kernel_rfl) (by simp) ?_
            refine AllReadyZ.cons rfl (by rfl) (fun K hK => ?_) ?_
            rotate_left
            exact AllReadyZ.nil
            have hvl := own6.lt
            refine wp_append_rd (.tmp 34) (.tmp 37) 59 rfl (P + 1) 46 i0 _ 1 8 Try.underlying59 hi0 hz0 hz1 hz2 rfl (by decide) _ N _ rfl own6 ⟨w5.heap.size, 0, none⟩ 1 _ (ptrs [b]) rfl hrx (by decide) (ptrs_one _) (by unfold maxLen; omega) (by omega) (by omega) ?_
            intro v' w9 own9 hgr9 hob9
            obtain ⟨A9, c9, hv9⟩ := own_form own9
            subst hv9
            have hS9 := hS6.grown hgr9 (fun e => by have := hvl _ e; omega)
            have xw9 := xw6.grown hgr9 (fun j hj => by have := hvl j hj; omega)
            have h9 := h6.grown hgr9 (fun e => by have := hvl _ e; omega)
            have kids9 := kids6.push hgr9 hob9 k6 (by omega) (by omega) (fun j hj => by have := hvo j hj; omega)
            rw [← ptrs_append] at own9
            clear hS6 own6 kids6 hrx k6 xw6 h6 hgr9 hob9
            refine hK.out _ _ (fun hnz => ?s9) (fun _ => ?r9)
            case s9 => exact hS9
            clear hK K
            try simp only [Act.put, List.setIfInBounds_toArray, List.set_cons_zero, List.set_cons_succ]
            refine wpAnyZ_take (i := 9) (v := ?v10) rfl (by kernel_rfl) (fun _ _ _ h => h) (by rfl) (fun W hS => ?h10) hS9 ?r10
            case h10 =>
              go_simp
              rfl
            simp only [Act.put, List.setIfInBounds_toArray, List.set_cons_zero, List.set_cons_succ]
            refine wpAnyZ_take (i := 10) (v := ?v11) rfl (by kernel_rfl) (fun _ _ _ h => h) (by rfl) (fun W hS => ?h11) hS9 ?r11
            case h11 =>
              go_simp
              rfl
            simp only [Act.put, List.setIfInBounds_toArray, List.set_cons_zero, List.set_cons_succ]
            refine wpAnyZ_ready (rs := [11]) (by kernel_rfl) (by simp) ?_
            refine AllReadyZ.cons rfl (by rfl) (fun K hK => ?_) ?_
            rotate_left
            exact AllReadyZ.nil
            obtain ⟨⟨p0, p1, p2, p3, p4⟩, pf, pz⟩ := id hS9
            go_simp
            refine hK.out _ _ (fun hnz => ?s12) (fun _ => ?r12)
            case s12 => exact absurd rfl hnz
            clear hK K
            try simp only [Act.put, List.setIfInBounds_toArray, List.set_cons_zero, List.set_cons_succ]
            refine wpAnyZ_done (by kernel_rfl) ?_ _
            clear p0 p1 p2 p3 p4 pf pz
            go_roundw
            case rel => exact ⟨_, _, _, _, _, _, _, _, _, _, _, _, _, _, _, _, _, _, _, _, _, _, _, _, _, _, _, _, _, _, _, _, _, _, _, ⟨m5, _, k, N + 1, c9, A9, l ++ [(pieceS Wf q).1], bs ++ [b], ⟨h9.other ⟨P, 2, none⟩ hPR _, GX.setCell (p := ⟨P, 2, none⟩) xw9 (.inr hP) _, hS9.set, own_set own9 (p := ⟨P, 2, none⟩) (Nat.lt_succ_self _) _, kids9.set _ _, by rw [HN.out]; simp, hP, Lib.hid (by have := hc.out; rw [e1] at this; rw [PcL.app_snoc]; exact this)⟩, by omega, by omega, hpg.bd hB, by have := h9.len; omega⟩, rfl⟩
            case measure => rw [Hmn.out, (h9.other ⟨P, 2, none⟩ hPR (.slice A9 (N + 1) c9)).n]; have := h9.len; omega
end Go.Proofs.Ytpcmdijgepbilaa
