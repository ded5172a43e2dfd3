/- The law AggBetween of chapter 6, walked. -/
import Derived.Test.YtoojjejdbpkbhaaAgBetwP
import Derived.Test.YtoojjejdbpkbhaaAgLaw
import Derived.Test.YtoojjejdbpkbhaaRegQ
import Derived.BigQuiet
namespace Go.Proofs.Ytoojjejdbpkbhaa
open Go.RowKit

theorem Gr.four {W W1 : World} {B0 B1 B2 B3 : Nat} {a b c d : Vl} (g : Gr W W1) (h : W.cell? ⟨B0, 0, none⟩ = some (.bool a.ok) ∧ W.cell? ⟨B0, 1, none⟩ = some (.int .i64 a.n) ∧ W.cell? ⟨B1, 0, none⟩ = some (.bool b.ok) ∧ W.cell? ⟨B1, 1, none⟩ = some (.int .i64 b.n) ∧ W.cell? ⟨B2, 0, none⟩ = some (.bool c.ok) ∧ W.cell? ⟨B2, 1, none⟩ = some (.int .i64 c.n) ∧ W.cell? ⟨B3, 0, none⟩ = some (.bool d.ok) ∧ W.cell? ⟨B3, 1, none⟩ = some (.int .i64 d.n) ∧ B0 < W.heap.size ∧ B1 < W.heap.size ∧ B2 < W.heap.size ∧ B3 < W.heap.size) : W1.cell? ⟨B0, 0, none⟩ = some (.bool a.ok) ∧ W1.cell? ⟨B0, 1, none⟩ = some (.int .i64 a.n) ∧ W1.cell? ⟨B1, 0, none⟩ = some (.bool b.ok) ∧ W1.cell? ⟨B1, 1, none⟩ = some (.int .i64 b.n) ∧ W1.cell? ⟨B2, 0, none⟩ = some (.bool c.ok) ∧ W1.cell? ⟨B2, 1, none⟩ = some (.int .i64 c.n) ∧ W1.cell? ⟨B3, 0, none⟩ = some (.bool d.ok) ∧ W1.cell? ⟨B3, 1, none⟩ = some (.int .i64 d.n) ∧ B0 < W1.heap.size ∧ B1 < W1.heap.size ∧ B2 < W1.heap.size ∧ B3 < W1.heap.size := by
  obtain ⟨h0, h1, h2, h3, h4, h5, h6, h7, z0, z1, z2, z3⟩ := h
  have z := g.size
  exact ⟨(g.cell (p := ⟨B0, 0, none⟩) z0).trans h0, (g.cell (p := ⟨B0, 1, none⟩) z0).trans h1, (g.cell (p := ⟨B1, 0, none⟩) z1).trans h2, (g.cell (p := ⟨B1, 1, none⟩) z1).trans h3,
    (g.cell (p := ⟨B2, 0, none⟩) z2).trans h4, (g.cell (p := ⟨B2, 1, none⟩) z2).trans h5, (g.cell (p := ⟨B3, 0, none⟩) z3).trans h6, (g.cell (p := ⟨B3, 1, none⟩) z3).trans h7, by omega, by omega, by omega, by omega⟩
theorem Gr.five {W W1 : World} {B0 B1 B2 B3 : Nat} {a b c d x : Vl} {p : Addr} (g : Gr W W1) (h : W.cell? ⟨B0, 0, none⟩ = some (.bool a.ok) ∧ W.cell? ⟨B0, 1, none⟩ = some (.int .i64 a.n) ∧ W.cell? ⟨B1, 0, none⟩ = some (.bool b.ok) ∧ W.cell? ⟨B1, 1, none⟩ = some (.int .i64 b.n) ∧ W.cell? ⟨B2, 0, none⟩ = some (.bool c.ok) ∧ W.cell? ⟨B2, 1, none⟩ = some (.int .i64 c.n) ∧ W.cell? ⟨B3, 0, none⟩ = some (.bool d.ok) ∧ W.cell? ⟨B3, 1, none⟩ = some (.int .i64 d.n) ∧ B0 < W.heap.size ∧ B1 < W.heap.size ∧ B2 < W.heap.size ∧ B3 < W.heap.size ∧ W.cell? p = some (.bool x.ok) ∧ W.cell? ⟨p.block, p.off + 1, none⟩ = some (.int .i64 x.n) ∧ p.block < W.heap.size) : W1.cell? ⟨B0, 0, none⟩ = some (.bool a.ok) ∧ W1.cell? ⟨B0, 1, none⟩ = some (.int .i64 a.n) ∧ W1.cell? ⟨B1, 0, none⟩ = some (.bool b.ok) ∧ W1.cell? ⟨B1, 1, none⟩ = some (.int .i64 b.n) ∧ W1.cell? ⟨B2, 0, none⟩ = some (.bool c.ok) ∧ W1.cell? ⟨B2, 1, none⟩ = some (.int .i64 c.n) ∧ W1.cell? ⟨B3, 0, none⟩ = some (.bool d.ok) ∧ W1.cell? ⟨B3, 1, none⟩ = some (.int .i64 d.n) ∧ B0 < W1.heap.size ∧ B1 < W1.heap.size ∧ B2 < W1.heap.size ∧ B3 < W1.heap.size ∧ W1.cell? p = some (.bool x.ok) ∧ W1.cell? ⟨p.block, p.off + 1, none⟩ = some (.int .i64 x.n) ∧ p.block < W1.heap.size := by
  obtain ⟨h0, h1, h2, h3, h4, h5, h6, h7, z0, z1, z2, z3, h8, h9, z4⟩ := h
  obtain ⟨i0, i1, i2, i3, i4, i5, i6, i7, y0, y1, y2, y3⟩ := Gr.four g ⟨h0, h1, h2, h3, h4, h5, h6, h7, z0, z1, z2, z3⟩
  exact ⟨i0, i1, i2, i3, i4, i5, i6, i7, y0, y1, y2, y3, (g.cell (p := p) z4).trans h8, (g.cell (p := ⟨p.block, p.off + 1, none⟩) z4).trans h9, Nat.lt_of_lt_of_le z4 g.size⟩
theorem rless_no {a b : Vl} (h : lessB a b = false) (w : World) :
    Calls Try.prog 18 #[.agg #[.bool a.ok, .int .i64 a.n], .agg #[.bool b.ok, .int .i64 b.n]] w fun e w' => e = .returned (.bool false) ∧ Gr w w' := by
  have := rless_any a b w; rw [h] at this; exact this

set_option maxRecDepth 100000 in
set_option maxHeartbeats 1600000 in
theorem betw_some (A : Option Addr) (cap : Nat) (l : List Vl) (a b c d : Vl) (w : World) (h200 : ¬ (200 : Int) < (l.length : Int)) (hr : Rv w A l) (K : List Vl) (hK : kn l = K) (h0 : 0 < K.length)
    (H5 : RowKit.Hid (∀ w, Rv w A l → Calls Try.prog 8 #[.int .i64 5, .slice A l.length cap] w fun e w' => e = .returned (.agg #[.bool a.ok, .int .i64 a.n]) ∧ Gr w w'))
    (H4 : RowKit.Hid (∀ w, Rv w A l → Calls Try.prog 8 #[.int .i64 4, .slice A l.length cap] w fun e w' => e = .returned (.agg #[.bool b.ok, .int .i64 b.n]) ∧ Gr w w'))
    (H1 : RowKit.Hid (∀ w, Rv w A l → Calls Try.prog 8 #[.int .i64 1, .slice A l.length cap] w fun e w' => e = .returned (.agg #[.bool c.ok, .int .i64 c.n]) ∧ Gr w w'))
    (H3 : RowKit.Hid (∀ w, Rv w A l → Calls Try.prog 8 #[.int .i64 3, .slice A l.length cap] w fun e w' => e = .returned (.agg #[.bool d.ok, .int .i64 d.n]) ∧ Gr w w'))
    (HL : RowKit.Hid (∀ i (h : i < K.length), lessB K[i] a = false ∧ lessB b K[i] = false)) (HM : RowKit.Hid (c.ok = true → lessB c a = false ∧ lessB b c = false)) (HD : RowKit.Hid (d = K[K.length - 1])) (HO : RowKit.Hid (∀ i (h : i < K.length), (K[i].ok == d.ok) = true)) :
    Calls Try.prog 5 #[.slice A l.length cap] w fun e w' => e = .returned (.bool true) ∧ Gr w w' := by
  have hlm : l.length ≤ 1000000 := by omega
  go_enter Try.func5, Try.ntmps5
  go_wp2_with fail
  refine (H5.out _ hr).mono ?_; rintro e w1 ⟨rfl, hg⟩
  have g1 : Gr w w1 := hg
  clear hg
  go_wp2_with fail
  refine (H4.out _ (hr.gr g1)).mono ?_; rintro e w2 ⟨rfl, hg⟩
  have g2 : Gr w w2 := Gr.trans g1 hg
  clear hg
  go_wp2_with fail
  refine (H1.out _ (hr.gr g2)).mono ?_; rintro e w3 ⟨rfl, hg⟩
  have g3 : Gr w w3 := Gr.trans g2 hg
  clear hg
  go_wp2_with fail
  refine (H3.out _ (hr.gr g3)).mono ?_; rintro e w4 ⟨rfl, hg⟩
  have g4 : Gr w w4 := Gr.trans g3 hg
  clear hg
  go_wp2_with fail
  obtain ⟨B0, hB0⟩ : ∃ B, B = w4.heap.size := ⟨_, rfl⟩
  obtain ⟨B1, hB1⟩ : ∃ B, B = w4.heap.size + 1 := ⟨_, rfl⟩
  obtain ⟨B2, hB2⟩ : ∃ B, B = w4.heap.size + 1 + 1 := ⟨_, rfl⟩
  obtain ⟨B3, hB3⟩ : ∃ B, B = w4.heap.size + 1 + 1 + 1 := ⟨_, rfl⟩
  rw [← hB3, ← hB2, ← hB1, ← hB0]
  obtain ⟨W, hW⟩ : ∃ W, W = (((w4.alloc (Obj.cells #[Value.bool a.ok, Value.int IntKind.i64 a.n] 24)).alloc (Obj.cells #[Value.bool b.ok, Value.int IntKind.i64 b.n] 24)).alloc (Obj.cells #[Value.bool c.ok, Value.int IntKind.i64 c.n] 24)).alloc (Obj.cells #[Value.bool d.ok, Value.int IntKind.i64 d.n] 24) := ⟨_, rfl⟩
  rw [← hW]
  have eW : W.cell? ⟨B0, 0, none⟩ = some (.bool a.ok) ∧ W.cell? ⟨B0, 1, none⟩ = some (.int .i64 a.n) ∧ W.cell? ⟨B1, 0, none⟩ = some (.bool b.ok) ∧ W.cell? ⟨B1, 1, none⟩ = some (.int .i64 b.n) ∧ W.cell? ⟨B2, 0, none⟩ = some (.bool c.ok) ∧ W.cell? ⟨B2, 1, none⟩ = some (.int .i64 c.n) ∧ W.cell? ⟨B3, 0, none⟩ = some (.bool d.ok) ∧ W.cell? ⟨B3, 1, none⟩ = some (.int .i64 d.n) ∧ B0 < W.heap.size ∧ B1 < W.heap.size ∧ B2 < W.heap.size ∧ B3 < W.heap.size := by
    rw [hW, hB0, hB1, hB2, hB3]
    refine ⟨?_, ?_, ?_, ?_, ?_, ?_, ?_, ?_, ?_, ?_, ?_, ?_⟩ <;> first | (go_simp; done) | (simp; done) | (simp; omega)
  have gW : Gr w W := by rw [hW]; exact Gr.alloc (Gr.alloc (Gr.alloc (Gr.alloc g4 _) _) _) _
  clear hW hB0 hB1 hB2 hB3 g1 g2 g3 g4 H1 H3 H4 H5
  refine (rknown_vals_any A cap l _ hlm (hr.gr gW)).mono ?_; rintro e W5 ⟨A', c', rfl, hrk, hg5⟩
  have eV := Gr.four hg5 eW
  have gV : Gr w W5 := Gr.trans gW hg5
  rw [hK] at hrk ⊢
  have HK := Lib.hid hK; clear hK
  clear hg5 eW gW
  obtain ⟨m, hm⟩ : ∃ m, K.length = m + 1 := ⟨K.length - 1, by omega⟩
  have hmlt : m < K.length := by omega
  have hd : d = K[m] := by rw [HD.out]; congr 1; omega
  have hlK : (K.length : Int) ≤ 1000000 := by have := hrk.1; have := kn_len l; rw [HK.out] at this; omega
  obtain ⟨hn, hn'⟩ := len_facts h0
  have HDm := Lib.hid hd; clear hd HD
  have HMm := Lib.hid hm; clear hm
  go_wp2
  go_loopw [8, 9] (fun v i wr => ∃ (k : Nat) (t : Bool), k ≤ K.length ∧ i = .int .i64 k ∧ v = .bool t ∧ Gr W5 wr ∧ (m < k → t = true)) (fun _ i _ => K.length - (intOf i).toNat)
  case atStart => exact ⟨0, false, Nat.zero_le _, rfl, rfl, Gr.refl _, fun h => absurd h (by omega)⟩
  case round =>
    obtain ⟨k, t, hk, rfl, rfl, hgr, ht⟩ := hrel
    have es := Gr.four hgr eV
    obtain ⟨e0, e1, e2, e3, e4, e5, e6, e7, z0, z1, z2, z3⟩ := id es
    by_cases hlt : k < K.length
    · obtain ⟨ad, rfl, hb, hx0, hx1⟩ := (hrk.gr hgr).at hlt
      have HLK := HL.out k hlt
      have hq1 := HO.out k hlt
      obtain ⟨x, hxk⟩ : ∃ x, K[k] = x := ⟨_, rfl⟩
      rw [hxk] at HLK hx0 hx1 hq1
      have HXK := Lib.hid hxk; clear hxk
      have HT := Lib.hid ht; clear ht
      cases t
      · by_cases hkm : k = m
        · subst hkm
          have hdk : d = x := HDm.out.trans HXK.out
          subst hdk
          have es : wr.cell? ⟨B0, 0, none⟩ = some (.bool a.ok) ∧ wr.cell? ⟨B0, 1, none⟩ = some (.int .i64 a.n) ∧ wr.cell? ⟨B1, 0, none⟩ = some (.bool b.ok) ∧ wr.cell? ⟨B1, 1, none⟩ = some (.int .i64 b.n) ∧ wr.cell? ⟨B2, 0, none⟩ = some (.bool c.ok) ∧ wr.cell? ⟨B2, 1, none⟩ = some (.int .i64 c.n) ∧ wr.cell? ⟨B3, 0, none⟩ = some (.bool d.ok) ∧ wr.cell? ⟨B3, 1, none⟩ = some (.int .i64 d.n) ∧ B0 < wr.heap.size ∧ B1 < wr.heap.size ∧ B2 < wr.heap.size ∧ B3 < wr.heap.size ∧ wr.cell? (ad.add (k * 2)) = some (.bool d.ok) ∧ wr.cell? ⟨(ad.add (k * 2)).block, (ad.add (k * 2)).off + 1, none⟩ = some (.int .i64 d.n) ∧ (ad.add (k * 2)).block < wr.heap.size := ⟨e0, e1, e2, e3, e4, e5, e6, e7, z0, z1, z2, z3, hx0, hx1, by rw [add_blk]; exact hb⟩
          go_wp2
          go_quiet (fail)
          have es := Gr.five (Gr.drewN (Gr.refl wr) nq) es
          have gq : Gr W5 (wr.drewN nq) := Gr.drewN hgr nq
          generalize wr.drewN nq = V at es gq ⊢
          clear e0 e1 e2 e3 e4 e5 e6 e7 z0 z1 z2 z3 hx0 hx1
          go_wp2
          refine region_Q (by kernel_rfl) (by kernel_rfl) ?_
          refine q_val (v := ?v1) (by rfl) (fun W hW => ?h1) ?r1
          case h1 =>
              go_simp
              rfl
          simp only [Act.put, List.setIfInBounds_toArray, List.set_cons_zero, List.set_cons_succ]
          refine q_val (v := ?v2) (by rfl) (fun W hW => ?h2) ?r2
          case h2 =>
              go_simp
              rfl
          simp only [Act.put, List.setIfInBounds_toArray, List.set_cons_zero, List.set_cons_succ]
          refine q_val (v := ?v3) (by rfl) (fun W hW => ?h3) ?r3
          case h3 =>
              go_simp
              rfl
          simp only [Act.put, List.setIfInBounds_toArray, List.set_cons_zero, List.set_cons_succ]
          refine q_val (v := ?v4) (by rfl) (fun W hW => ?h4) ?r4
          case h4 =>
              have es2 := Gr.five (B0 := B0) (B1 := B1) (B2 := B2) (B3 := B3) (a := a) (b := b) (c := c) (d := d) (x := d) (p := ad.add (k * 2)) hW es
              obtain ⟨e0, e1, e2, e3, e4, e5, e6, e7, z0, z1, z2, z3, hx0, hx1, z4⟩ := es2
              go_simp
              rfl
          simp only [Act.put, List.setIfInBounds_toArray, List.set_cons_zero, List.set_cons_succ]
          refine q_val (v := ?v5) (by rfl) (fun W hW => ?h5) ?r5
          case h5 =>
              have es2 := Gr.five (B0 := B0) (B1 := B1) (B2 := B2) (B3 := B3) (a := a) (b := b) (c := c) (d := d) (x := d) (p := ad.add (k * 2)) hW es
              obtain ⟨e0, e1, e2, e3, e4, e5, e6, e7, z0, z1, z2, z3, hx0, hx1, z4⟩ := es2
              go_simp
              rfl
          simp only [Act.put, List.setIfInBounds_toArray, List.set_cons_zero, List.set_cons_succ]
          refine q_call (v := .bool false) (f := ?f6) (args := ?args6) (by rfl) (fun W hW => ?h6) (fun W hW => ?c6) ?r6
          case h6 =>
            go_simp
            constructor
            · rfl
            · rfl
          case c6 => exact (rless_no HLK.1 W).mono (fun e w' h => ⟨h.1, Gr.trans hW h.2⟩)
          simp only [Act.put, List.setIfInBounds_toArray, List.set_cons_zero, List.set_cons_succ]
          refine q_val (v := ?v7) (by rfl) (fun W hW => ?h7) ?r7
          case h7 =>
              go_simp
              rfl
          simp only [Act.put, List.setIfInBounds_toArray, List.set_cons_zero, List.set_cons_succ]
          refine q_val (v := ?v8) (by rfl) (fun W hW => ?h8) ?r8
          case h8 =>
              have es2 := Gr.five (B0 := B0) (B1 := B1) (B2 := B2) (B3 := B3) (a := a) (b := b) (c := c) (d := d) (x := d) (p := ad.add (k * 2)) hW es
              obtain ⟨e0, e1, e2, e3, e4, e5, e6, e7, z0, z1, z2, z3, hx0, hx1, z4⟩ := es2
              go_simp
              rfl
          simp only [Act.put, List.setIfInBounds_toArray, List.set_cons_zero, List.set_cons_succ]
          refine q_val (v := ?v9) (by rfl) (fun W hW => ?h9) ?r9
          case h9 =>
              go_simp
              rfl
          simp only [Act.put, List.setIfInBounds_toArray, List.set_cons_zero, List.set_cons_succ]
          refine q_val (v := ?v10) (by rfl) (fun W hW => ?h10) ?r10
          case h10 =>
              go_simp
              rfl
          simp only [Act.put, List.setIfInBounds_toArray, List.set_cons_zero, List.set_cons_succ]
          refine q_val (v := ?v11) (by rfl) (fun W hW => ?h11) ?r11
          case h11 =>
              go_simp
              rfl
          simp only [Act.put, List.setIfInBounds_toArray, List.set_cons_zero, List.set_cons_succ]
          refine q_val (v := ?v12) (by rfl) (fun W hW => ?h12) ?r12
          case h12 =>
              have es2 := Gr.five (B0 := B0) (B1 := B1) (B2 := B2) (B3 := B3) (a := a) (b := b) (c := c) (d := d) (x := d) (p := ad.add (k * 2)) hW es
              obtain ⟨e0, e1, e2, e3, e4, e5, e6, e7, z0, z1, z2, z3, hx0, hx1, z4⟩ := es2
              go_simp
              rfl
          simp only [Act.put, List.setIfInBounds_toArray, List.set_cons_zero, List.set_cons_succ]
          refine q_call (v := .bool false) (f := ?f13) (args := ?args13) (by rfl) (fun W hW => ?h13) (fun W hW => ?c13) ?r13
          case h13 =>
            go_simp
            constructor
            · rfl
            · rfl
          case c13 => exact (rless_no HLK.2 W).mono (fun e w' h => ⟨h.1, Gr.trans hW h.2⟩)
          simp only [Act.put, List.setIfInBounds_toArray, List.set_cons_zero, List.set_cons_succ]
          refine q_val (v := ?v14) (by rfl) (fun W hW => ?h14) ?r14
          case h14 =>
              go_simp
              rfl
          simp only [Act.put, List.setIfInBounds_toArray, List.set_cons_zero, List.set_cons_succ]
          refine wpQuiet_nil ?_
          intro w6 hg
          have g6 := Gr.trans gq hg
          clear hg es gq
          go_wp2
          go_roundw
          case rel => exact ⟨k + 1, _, by omega, by go_num, rfl, g6, fun _ => rfl⟩
          case measure => simp [intOf]; omega
        · have HKM := Lib.hid hkm; clear hkm
          cases hq2 : (x.n == d.n)
          · 
            have es : wr.cell? ⟨B0, 0, none⟩ = some (.bool a.ok) ∧ wr.cell? ⟨B0, 1, none⟩ = some (.int .i64 a.n) ∧ wr.cell? ⟨B1, 0, none⟩ = some (.bool b.ok) ∧ wr.cell? ⟨B1, 1, none⟩ = some (.int .i64 b.n) ∧ wr.cell? ⟨B2, 0, none⟩ = some (.bool c.ok) ∧ wr.cell? ⟨B2, 1, none⟩ = some (.int .i64 c.n) ∧ wr.cell? ⟨B3, 0, none⟩ = some (.bool d.ok) ∧ wr.cell? ⟨B3, 1, none⟩ = some (.int .i64 d.n) ∧ B0 < wr.heap.size ∧ B1 < wr.heap.size ∧ B2 < wr.heap.size ∧ B3 < wr.heap.size ∧ wr.cell? (ad.add (k * 2)) = some (.bool x.ok) ∧ wr.cell? ⟨(ad.add (k * 2)).block, (ad.add (k * 2)).off + 1, none⟩ = some (.int .i64 x.n) ∧ (ad.add (k * 2)).block < wr.heap.size := ⟨e0, e1, e2, e3, e4, e5, e6, e7, z0, z1, z2, z3, hx0, hx1, by rw [add_blk]; exact hb⟩
            go_wp2
            go_quiet (fail)
            have es := Gr.five (Gr.drewN (Gr.refl wr) nq) es
            have gq : Gr W5 (wr.drewN nq) := Gr.drewN hgr nq
            generalize wr.drewN nq = V at es gq ⊢
            clear e0 e1 e2 e3 e4 e5 e6 e7 z0 z1 z2 z3 hx0 hx1
            go_wp2
            refine region_Q (by kernel_rfl) (by kernel_rfl) ?_
            refine q_val (v := ?v15) (by rfl) (fun W hW => ?h15) ?r15
            case h15 =>
                go_simp
                rfl
            simp only [Act.put, List.setIfInBounds_toArray, List.set_cons_zero, List.set_cons_succ]
            refine q_val (v := ?v16) (by rfl) (fun W hW => ?h16) ?r16
            case h16 =>
                go_simp
                rfl
            simp only [Act.put, List.setIfInBounds_toArray, List.set_cons_zero, List.set_cons_succ]
            refine q_val (v := ?v17) (by rfl) (fun W hW => ?h17) ?r17
            case h17 =>
                go_simp
                rfl
            simp only [Act.put, List.setIfInBounds_toArray, List.set_cons_zero, List.set_cons_succ]
            refine q_val (v := ?v18) (by rfl) (fun W hW => ?h18) ?r18
            case h18 =>
                have es2 := Gr.five (B0 := B0) (B1 := B1) (B2 := B2) (B3 := B3) (a := a) (b := b) (c := c) (d := d) (x := x) (p := ad.add (k * 2)) hW es
                obtain ⟨e0, e1, e2, e3, e4, e5, e6, e7, z0, z1, z2, z3, hx0, hx1, z4⟩ := es2
                go_simp
                rfl
            simp only [Act.put, List.setIfInBounds_toArray, List.set_cons_zero, List.set_cons_succ]
            refine q_val (v := ?v19) (by rfl) (fun W hW => ?h19) ?r19
            case h19 =>
                have es2 := Gr.five (B0 := B0) (B1 := B1) (B2 := B2) (B3 := B3) (a := a) (b := b) (c := c) (d := d) (x := x) (p := ad.add (k * 2)) hW es
                obtain ⟨e0, e1, e2, e3, e4, e5, e6, e7, z0, z1, z2, z3, hx0, hx1, z4⟩ := es2
                go_simp
                rfl
            simp only [Act.put, List.setIfInBounds_toArray, List.set_cons_zero, List.set_cons_succ]
            refine q_call (v := .bool false) (f := ?f20) (args := ?args20) (by rfl) (fun W hW => ?h20) (fun W hW => ?c20) ?r20
            case h20 =>
              go_simp
              constructor
              · rfl
              · rfl
            case c20 => exact (rless_no HLK.1 W).mono (fun e w' h => ⟨h.1, Gr.trans hW h.2⟩)
            simp only [Act.put, List.setIfInBounds_toArray, List.set_cons_zero, List.set_cons_succ]
            refine q_val (v := ?v21) (by rfl) (fun W hW => ?h21) ?r21
            case h21 =>
                go_simp
                rfl
            simp only [Act.put, List.setIfInBounds_toArray, List.set_cons_zero, List.set_cons_succ]
            refine q_val (v := ?v22) (by rfl) (fun W hW => ?h22) ?r22
            case h22 =>
                have es2 := Gr.five (B0 := B0) (B1 := B1) (B2 := B2) (B3 := B3) (a := a) (b := b) (c := c) (d := d) (x := x) (p := ad.add (k * 2)) hW es
                obtain ⟨e0, e1, e2, e3, e4, e5, e6, e7, z0, z1, z2, z3, hx0, hx1, z4⟩ := es2
                go_simp
                rfl
            simp only [Act.put, List.setIfInBounds_toArray, List.set_cons_zero, List.set_cons_succ]
            refine q_val (v := ?v23) (by rfl) (fun W hW => ?h23) ?r23
            case h23 =>
                go_simp
                rfl
            simp only [Act.put, List.setIfInBounds_toArray, List.set_cons_zero, List.set_cons_succ]
            refine q_val (v := ?v24) (by rfl) (fun W hW => ?h24) ?r24
            case h24 =>
                go_simp
                rfl
            simp only [Act.put, List.setIfInBounds_toArray, List.set_cons_zero, List.set_cons_succ]
            refine q_val (v := ?v25) (by rfl) (fun W hW => ?h25) ?r25
            case h25 =>
                go_simp
                rfl
            simp only [Act.put, List.setIfInBounds_toArray, List.set_cons_zero, List.set_cons_succ]
            refine q_val (v := ?v26) (by rfl) (fun W hW => ?h26) ?r26
            case h26 =>
                have es2 := Gr.five (B0 := B0) (B1 := B1) (B2 := B2) (B3 := B3) (a := a) (b := b) (c := c) (d := d) (x := x) (p := ad.add (k * 2)) hW es
                obtain ⟨e0, e1, e2, e3, e4, e5, e6, e7, z0, z1, z2, z3, hx0, hx1, z4⟩ := es2
                go_simp
                rfl
            simp only [Act.put, List.setIfInBounds_toArray, List.set_cons_zero, List.set_cons_succ]
            refine q_call (v := .bool false) (f := ?f27) (args := ?args27) (by rfl) (fun W hW => ?h27) (fun W hW => ?c27) ?r27
            case h27 =>
              go_simp
              constructor
              · rfl
              · rfl
            case c27 => exact (rless_no HLK.2 W).mono (fun e w' h => ⟨h.1, Gr.trans hW h.2⟩)
            simp only [Act.put, List.setIfInBounds_toArray, List.set_cons_zero, List.set_cons_succ]
            refine q_val (v := ?v28) (by rfl) (fun W hW => ?h28) ?r28
            case h28 =>
                go_simp
                rfl
            simp only [Act.put, List.setIfInBounds_toArray, List.set_cons_zero, List.set_cons_succ]
            refine wpQuiet_nil ?_
            intro w6 hg
            have g6 := Gr.trans gq hg
            clear hg es gq
            go_wp2
            go_roundw
            case rel => exact ⟨k + 1, _, by omega, by go_num, rfl, g6, fun h => absurd (HT.out (by have := HKM.out; omega)) (by simp)⟩
            case measure => simp [intOf]; omega
          · 
            have es : wr.cell? ⟨B0, 0, none⟩ = some (.bool a.ok) ∧ wr.cell? ⟨B0, 1, none⟩ = some (.int .i64 a.n) ∧ wr.cell? ⟨B1, 0, none⟩ = some (.bool b.ok) ∧ wr.cell? ⟨B1, 1, none⟩ = some (.int .i64 b.n) ∧ wr.cell? ⟨B2, 0, none⟩ = some (.bool c.ok) ∧ wr.cell? ⟨B2, 1, none⟩ = some (.int .i64 c.n) ∧ wr.cell? ⟨B3, 0, none⟩ = some (.bool d.ok) ∧ wr.cell? ⟨B3, 1, none⟩ = some (.int .i64 d.n) ∧ B0 < wr.heap.size ∧ B1 < wr.heap.size ∧ B2 < wr.heap.size ∧ B3 < wr.heap.size ∧ wr.cell? (ad.add (k * 2)) = some (.bool x.ok) ∧ wr.cell? ⟨(ad.add (k * 2)).block, (ad.add (k * 2)).off + 1, none⟩ = some (.int .i64 x.n) ∧ (ad.add (k * 2)).block < wr.heap.size := ⟨e0, e1, e2, e3, e4, e5, e6, e7, z0, z1, z2, z3, hx0, hx1, by rw [add_blk]; exact hb⟩
            go_wp2
            go_quiet (fail)
            have es := Gr.five (Gr.drewN (Gr.refl wr) nq) es
            have gq : Gr W5 (wr.drewN nq) := Gr.drewN hgr nq
            generalize wr.drewN nq = V at es gq ⊢
            clear e0 e1 e2 e3 e4 e5 e6 e7 z0 z1 z2 z3 hx0 hx1
            go_wp2
            refine region_Q (by kernel_rfl) (by kernel_rfl) ?_
            refine q_val (v := ?v29) (by rfl) (fun W hW => ?h29) ?r29
            case h29 =>
                go_simp
                rfl
            simp only [Act.put, List.setIfInBounds_toArray, List.set_cons_zero, List.set_cons_succ]
            refine q_val (v := ?v30) (by rfl) (fun W hW => ?h30) ?r30
            case h30 =>
                go_simp
                rfl
            simp only [Act.put, List.setIfInBounds_toArray, List.set_cons_zero, List.set_cons_succ]
            refine q_val (v := ?v31) (by rfl) (fun W hW => ?h31) ?r31
            case h31 =>
                go_simp
                rfl
            simp only [Act.put, List.setIfInBounds_toArray, List.set_cons_zero, List.set_cons_succ]
            refine q_val (v := ?v32) (by rfl) (fun W hW => ?h32) ?r32
            case h32 =>
                have es2 := Gr.five (B0 := B0) (B1 := B1) (B2 := B2) (B3 := B3) (a := a) (b := b) (c := c) (d := d) (x := x) (p := ad.add (k * 2)) hW es
                obtain ⟨e0, e1, e2, e3, e4, e5, e6, e7, z0, z1, z2, z3, hx0, hx1, z4⟩ := es2
                go_simp
                rfl
            simp only [Act.put, List.setIfInBounds_toArray, List.set_cons_zero, List.set_cons_succ]
            refine q_val (v := ?v33) (by rfl) (fun W hW => ?h33) ?r33
            case h33 =>
                have es2 := Gr.five (B0 := B0) (B1 := B1) (B2 := B2) (B3 := B3) (a := a) (b := b) (c := c) (d := d) (x := x) (p := ad.add (k * 2)) hW es
                obtain ⟨e0, e1, e2, e3, e4, e5, e6, e7, z0, z1, z2, z3, hx0, hx1, z4⟩ := es2
                go_simp
                rfl
            simp only [Act.put, List.setIfInBounds_toArray, List.set_cons_zero, List.set_cons_succ]
            refine q_call (v := .bool false) (f := ?f34) (args := ?args34) (by rfl) (fun W hW => ?h34) (fun W hW => ?c34) ?r34
            case h34 =>
              go_simp
              constructor
              · rfl
              · rfl
            case c34 => exact (rless_no HLK.1 W).mono (fun e w' h => ⟨h.1, Gr.trans hW h.2⟩)
            simp only [Act.put, List.setIfInBounds_toArray, List.set_cons_zero, List.set_cons_succ]
            refine q_val (v := ?v35) (by rfl) (fun W hW => ?h35) ?r35
            case h35 =>
                go_simp
                rfl
            simp only [Act.put, List.setIfInBounds_toArray, List.set_cons_zero, List.set_cons_succ]
            refine q_val (v := ?v36) (by rfl) (fun W hW => ?h36) ?r36
            case h36 =>
                have es2 := Gr.five (B0 := B0) (B1 := B1) (B2 := B2) (B3 := B3) (a := a) (b := b) (c := c) (d := d) (x := x) (p := ad.add (k * 2)) hW es
                obtain ⟨e0, e1, e2, e3, e4, e5, e6, e7, z0, z1, z2, z3, hx0, hx1, z4⟩ := es2
                go_simp
                rfl
            simp only [Act.put, List.setIfInBounds_toArray, List.set_cons_zero, List.set_cons_succ]
            refine q_val (v := ?v37) (by rfl) (fun W hW => ?h37) ?r37
            case h37 =>
                go_simp
                rfl
            simp only [Act.put, List.setIfInBounds_toArray, List.set_cons_zero, List.set_cons_succ]
            refine q_val (v := ?v38) (by rfl) (fun W hW => ?h38) ?r38
            case h38 =>
                go_simp
                rfl
            simp only [Act.put, List.setIfInBounds_toArray, List.set_cons_zero, List.set_cons_succ]
            refine q_val (v := ?v39) (by rfl) (fun W hW => ?h39) ?r39
            case h39 =>
                go_simp
                rfl
            simp only [Act.put, List.setIfInBounds_toArray, List.set_cons_zero, List.set_cons_succ]
            refine q_val (v := ?v40) (by rfl) (fun W hW => ?h40) ?r40
            case h40 =>
                have es2 := Gr.five (B0 := B0) (B1 := B1) (B2 := B2) (B3 := B3) (a := a) (b := b) (c := c) (d := d) (x := x) (p := ad.add (k * 2)) hW es
                obtain ⟨e0, e1, e2, e3, e4, e5, e6, e7, z0, z1, z2, z3, hx0, hx1, z4⟩ := es2
                go_simp
                rfl
            simp only [Act.put, List.setIfInBounds_toArray, List.set_cons_zero, List.set_cons_succ]
            refine q_call (v := .bool false) (f := ?f41) (args := ?args41) (by rfl) (fun W hW => ?h41) (fun W hW => ?c41) ?r41
            case h41 =>
              go_simp
              constructor
              · rfl
              · rfl
            case c41 => exact (rless_no HLK.2 W).mono (fun e w' h => ⟨h.1, Gr.trans hW h.2⟩)
            simp only [Act.put, List.setIfInBounds_toArray, List.set_cons_zero, List.set_cons_succ]
            refine q_val (v := ?v42) (by rfl) (fun W hW => ?h42) ?r42
            case h42 =>
                go_simp
                rfl
            simp only [Act.put, List.setIfInBounds_toArray, List.set_cons_zero, List.set_cons_succ]
            refine wpQuiet_nil ?_
            intro w6 hg
            have g6 := Gr.trans gq hg
            clear hg es gq
            go_wp2
            go_roundw
            case rel => exact ⟨k + 1, _, by omega, by go_num, rfl, g6, fun _ => rfl⟩
            case measure => simp [intOf]; omega
      · 
        have es : wr.cell? ⟨B0, 0, none⟩ = some (.bool a.ok) ∧ wr.cell? ⟨B0, 1, none⟩ = some (.int .i64 a.n) ∧ wr.cell? ⟨B1, 0, none⟩ = some (.bool b.ok) ∧ wr.cell? ⟨B1, 1, none⟩ = some (.int .i64 b.n) ∧ wr.cell? ⟨B2, 0, none⟩ = some (.bool c.ok) ∧ wr.cell? ⟨B2, 1, none⟩ = some (.int .i64 c.n) ∧ wr.cell? ⟨B3, 0, none⟩ = some (.bool d.ok) ∧ wr.cell? ⟨B3, 1, none⟩ = some (.int .i64 d.n) ∧ B0 < wr.heap.size ∧ B1 < wr.heap.size ∧ B2 < wr.heap.size ∧ B3 < wr.heap.size ∧ wr.cell? (ad.add (k * 2)) = some (.bool x.ok) ∧ wr.cell? ⟨(ad.add (k * 2)).block, (ad.add (k * 2)).off + 1, none⟩ = some (.int .i64 x.n) ∧ (ad.add (k * 2)).block < wr.heap.size := ⟨e0, e1, e2, e3, e4, e5, e6, e7, z0, z1, z2, z3, hx0, hx1, by rw [add_blk]; exact hb⟩
        go_wp2
        go_quiet (fail)
        have es := Gr.five (Gr.drewN (Gr.refl wr) nq) es
        have gq : Gr W5 (wr.drewN nq) := Gr.drewN hgr nq
        generalize wr.drewN nq = V at es gq ⊢
        clear e0 e1 e2 e3 e4 e5 e6 e7 z0 z1 z2 z3 hx0 hx1
        go_wp2
        refine region_Q (by kernel_rfl) (by kernel_rfl) ?_
        refine q_val (v := ?v43) (by rfl) (fun W hW => ?h43) ?r43
        case h43 =>
            go_simp
            rfl
        simp only [Act.put, List.setIfInBounds_toArray, List.set_cons_zero, List.set_cons_succ]
        refine q_val (v := ?v44) (by rfl) (fun W hW => ?h44) ?r44
        case h44 =>
            go_simp
            rfl
        simp only [Act.put, List.setIfInBounds_toArray, List.set_cons_zero, List.set_cons_succ]
        refine q_val (v := ?v45) (by rfl) (fun W hW => ?h45) ?r45
        case h45 =>
            go_simp
            rfl
        simp only [Act.put, List.setIfInBounds_toArray, List.set_cons_zero, List.set_cons_succ]
        refine q_val (v := ?v46) (by rfl) (fun W hW => ?h46) ?r46
        case h46 =>
            have es2 := Gr.five (B0 := B0) (B1 := B1) (B2 := B2) (B3 := B3) (a := a) (b := b) (c := c) (d := d) (x := x) (p := ad.add (k * 2)) hW es
            obtain ⟨e0, e1, e2, e3, e4, e5, e6, e7, z0, z1, z2, z3, hx0, hx1, z4⟩ := es2
            go_simp
            rfl
        simp only [Act.put, List.setIfInBounds_toArray, List.set_cons_zero, List.set_cons_succ]
        refine q_val (v := ?v47) (by rfl) (fun W hW => ?h47) ?r47
        case h47 =>
            have es2 := Gr.five (B0 := B0) (B1 := B1) (B2 := B2) (B3 := B3) (a := a) (b := b) (c := c) (d := d) (x := x) (p := ad.add (k * 2)) hW es
            obtain ⟨e0, e1, e2, e3, e4, e5, e6, e7, z0, z1, z2, z3, hx0, hx1, z4⟩ := es2
            go_simp
            rfl
        simp only [Act.put, List.setIfInBounds_toArray, List.set_cons_zero, List.set_cons_succ]
        refine q_call (v := .bool false) (f := ?f48) (args := ?args48) (by rfl) (fun W hW => ?h48) (fun W hW => ?c48) ?r48
        case h48 =>
          go_simp
          constructor
          · rfl
          · rfl
        case c48 => exact (rless_no HLK.1 W).mono (fun e w' h => ⟨h.1, Gr.trans hW h.2⟩)
        simp only [Act.put, List.setIfInBounds_toArray, List.set_cons_zero, List.set_cons_succ]
        refine q_val (v := ?v49) (by rfl) (fun W hW => ?h49) ?r49
        case h49 =>
            go_simp
            rfl
        simp only [Act.put, List.setIfInBounds_toArray, List.set_cons_zero, List.set_cons_succ]
        refine q_val (v := ?v50) (by rfl) (fun W hW => ?h50) ?r50
        case h50 =>
            have es2 := Gr.five (B0 := B0) (B1 := B1) (B2 := B2) (B3 := B3) (a := a) (b := b) (c := c) (d := d) (x := x) (p := ad.add (k * 2)) hW es
            obtain ⟨e0, e1, e2, e3, e4, e5, e6, e7, z0, z1, z2, z3, hx0, hx1, z4⟩ := es2
            go_simp
            rfl
        simp only [Act.put, List.setIfInBounds_toArray, List.set_cons_zero, List.set_cons_succ]
        refine q_val (v := ?v51) (by rfl) (fun W hW => ?h51) ?r51
        case h51 =>
            go_simp
            rfl
        simp only [Act.put, List.setIfInBounds_toArray, List.set_cons_zero, List.set_cons_succ]
        refine q_val (v := ?v52) (by rfl) (fun W hW => ?h52) ?r52
        case h52 =>
            go_simp
            rfl
        simp only [Act.put, List.setIfInBounds_toArray, List.set_cons_zero, List.set_cons_succ]
        refine q_val (v := ?v53) (by rfl) (fun W hW => ?h53) ?r53
        case h53 =>
            go_simp
            rfl
        simp only [Act.put, List.setIfInBounds_toArray, List.set_cons_zero, List.set_cons_succ]
        refine q_val (v := ?v54) (by rfl) (fun W hW => ?h54) ?r54
        case h54 =>
            have es2 := Gr.five (B0 := B0) (B1 := B1) (B2 := B2) (B3 := B3) (a := a) (b := b) (c := c) (d := d) (x := x) (p := ad.add (k * 2)) hW es
            obtain ⟨e0, e1, e2, e3, e4, e5, e6, e7, z0, z1, z2, z3, hx0, hx1, z4⟩ := es2
            go_simp
            rfl
        simp only [Act.put, List.setIfInBounds_toArray, List.set_cons_zero, List.set_cons_succ]
        refine q_call (v := .bool false) (f := ?f55) (args := ?args55) (by rfl) (fun W hW => ?h55) (fun W hW => ?c55) ?r55
        case h55 =>
          go_simp
          constructor
          · rfl
          · rfl
        case c55 => exact (rless_no HLK.2 W).mono (fun e w' h => ⟨h.1, Gr.trans hW h.2⟩)
        simp only [Act.put, List.setIfInBounds_toArray, List.set_cons_zero, List.set_cons_succ]
        refine q_val (v := ?v56) (by rfl) (fun W hW => ?h56) ?r56
        case h56 =>
            go_simp
            rfl
        simp only [Act.put, List.setIfInBounds_toArray, List.set_cons_zero, List.set_cons_succ]
        refine wpQuiet_nil ?_
        intro w6 hg
        have g6 := Gr.trans gq hg
        clear hg es gq
        go_wp2
        go_roundw
        case rel => exact ⟨k + 1, _, by omega, by go_num, rfl, g6, fun _ => rfl⟩
        case measure => simp [intOf]; omega
    · have hkm : k = m + 1 := by have := HMm.out; omega
      have ht' : t = true := ht (by omega)
      subst ht'
      clear ht
      have gw : Gr w wr := Gr.trans gV hgr
      cases hc : c.ok
      · rw [hc] at e4
        go_wp2_with fail
        refine (known6_any _).mono ?_; rintro e w7 ⟨rfl, hg⟩
        go_wp2
        go_ret
        exact ⟨rfl, Gr.trans gw hg⟩
      · have hcc : (⟨true, c.n⟩ : Vl) = c := by rw [← hc]
        have HMc := HM.out hc
        rw [← hcc] at HMc
        have M1 := Lib.hid HMc.1
        have M2 := Lib.hid HMc.2
        rw [hc] at e4
        have es' : W5.heap.size ≤ wr.heap.size := hgr.size
        have HC := Lib.hid hc
        clear hcc HMc hc
        go_wp2_with fail
        refine (rless_no (a := ⟨true, c.n⟩) M1.out _).mono ?_; rintro e w6 ⟨rfl, hg6⟩
        have es6 := Gr.four hg6 es
        clear es e0 e1 e2 e3 e4 e5 e6 e7 z0 z1 z2 z3
        rw [HC.out] at es6
        obtain ⟨e0, e1, e2, e3, e4, e5, e6, e7, z0, z1, z2, z3⟩ := es6
        go_wp2_with fail
        refine (rless_no (b := ⟨true, c.n⟩) M2.out _).mono ?_; rintro e w7 ⟨rfl, hg7⟩
        clear e0 e1 e2 e3 e4 e5 e6 e7
        go_wp2_with fail
        refine (known6_any _).mono ?_; rintro e w8 ⟨rfl, hg8⟩
        go_wp2
        go_ret
        exact ⟨rfl, Gr.trans gw (Gr.trans hg6 (Gr.trans hg7 hg8))⟩
set_option maxRecDepth 100000 in
set_option maxHeartbeats 1600000 in
theorem betw_nil (A : Option Addr) (cap : Nat) (l : List Vl) (w : World) (h200 : ¬ (200 : Int) < (l.length : Int)) (hr : Rv w A l) (hK : kn l = [])
    (H5 : RowKit.Hid (∀ w, Rv w A l → Calls Try.prog 8 #[.int .i64 5, .slice A l.length cap] w fun e w' => e = .returned (.agg #[.bool false, .int .i64 0]) ∧ Gr w w'))
    (H4 : RowKit.Hid (∀ w, Rv w A l → Calls Try.prog 8 #[.int .i64 4, .slice A l.length cap] w fun e w' => e = .returned (.agg #[.bool false, .int .i64 0]) ∧ Gr w w'))
    (H1 : RowKit.Hid (∀ w, Rv w A l → Calls Try.prog 8 #[.int .i64 1, .slice A l.length cap] w fun e w' => e = .returned (.agg #[.bool false, .int .i64 0]) ∧ Gr w w'))
    (H3 : RowKit.Hid (∀ w, Rv w A l → Calls Try.prog 8 #[.int .i64 3, .slice A l.length cap] w fun e w' => e = .returned (.agg #[.bool false, .int .i64 0]) ∧ Gr w w')) :
    Calls Try.prog 5 #[.slice A l.length cap] w fun e w' => e = .returned (.bool true) ∧ Gr w w' := by
  have hlm : l.length ≤ 1000000 := by omega
  go_enter Try.func5, Try.ntmps5
  go_wp2_with fail
  refine (H5.out _ hr).mono ?_; rintro e w1 ⟨rfl, hg⟩
  have g1 : Gr w w1 := hg
  clear hg
  go_wp2_with fail
  refine (H4.out _ (hr.gr g1)).mono ?_; rintro e w2 ⟨rfl, hg⟩
  have g2 : Gr w w2 := Gr.trans g1 hg
  clear hg
  go_wp2_with fail
  refine (H1.out _ (hr.gr g2)).mono ?_; rintro e w3 ⟨rfl, hg⟩
  have g3 : Gr w w3 := Gr.trans g2 hg
  clear hg
  go_wp2_with fail
  refine (H3.out _ (hr.gr g3)).mono ?_; rintro e w4 ⟨rfl, hg⟩
  have g4 : Gr w w4 := Gr.trans g3 hg
  clear hg
  go_wp2_with fail
  obtain ⟨B0, hB0⟩ : ∃ B, B = w4.heap.size := ⟨_, rfl⟩
  obtain ⟨B1, hB1⟩ : ∃ B, B = w4.heap.size + 1 := ⟨_, rfl⟩
  obtain ⟨B2, hB2⟩ : ∃ B, B = w4.heap.size + 1 + 1 := ⟨_, rfl⟩
  obtain ⟨B3, hB3⟩ : ∃ B, B = w4.heap.size + 1 + 1 + 1 := ⟨_, rfl⟩
  rw [← hB3, ← hB2, ← hB1, ← hB0]
  obtain ⟨W, hW⟩ : ∃ W, W = (((w4.alloc (Obj.cells #[Value.bool false, Value.int IntKind.i64 0] 24)).alloc (Obj.cells #[Value.bool false, Value.int IntKind.i64 0] 24)).alloc (Obj.cells #[Value.bool false, Value.int IntKind.i64 0] 24)).alloc (Obj.cells #[Value.bool false, Value.int IntKind.i64 0] 24) := ⟨_, rfl⟩
  rw [← hW]
  have eW : W.cell? ⟨B0, 0, none⟩ = some (.bool false) ∧ W.cell? ⟨B0, 1, none⟩ = some (.int .i64 0) ∧ W.cell? ⟨B1, 0, none⟩ = some (.bool false) ∧ W.cell? ⟨B1, 1, none⟩ = some (.int .i64 0) ∧ W.cell? ⟨B2, 0, none⟩ = some (.bool false) ∧ W.cell? ⟨B2, 1, none⟩ = some (.int .i64 0) ∧ W.cell? ⟨B3, 0, none⟩ = some (.bool false) ∧ W.cell? ⟨B3, 1, none⟩ = some (.int .i64 0) ∧ B0 < W.heap.size ∧ B1 < W.heap.size ∧ B2 < W.heap.size ∧ B3 < W.heap.size := by
    rw [hW, hB0, hB1, hB2, hB3]
    refine ⟨?_, ?_, ?_, ?_, ?_, ?_, ?_, ?_, ?_, ?_, ?_, ?_⟩ <;> first | (go_simp; done) | (simp; done) | (simp; omega)
  have gW : Gr w W := by rw [hW]; exact Gr.alloc (Gr.alloc (Gr.alloc (Gr.alloc g4 _) _) _) _
  clear hW hB0 hB1 hB2 hB3 g1 g2 g3 g4 H1 H3 H4 H5
  refine (rknown_vals_any A cap l _ hlm (hr.gr gW)).mono ?_; rintro e W5 ⟨A', c', rfl, hrk, hg5⟩
  have eV := Gr.four (a := ⟨false, 0⟩) (b := ⟨false, 0⟩) (c := ⟨false, 0⟩) (d := ⟨false, 0⟩) hg5 eW
  have gV : Gr w W5 := Gr.trans gW hg5
  rw [hK]
  clear hrk hK
  clear hg5 eW gW
  obtain ⟨e0, e1, e2, e3, e4, e5, e6, e7, z0, z1, z2, z3⟩ := eV
  go_wp2_with fail
  refine (known6_any _).mono ?_; rintro e w7 ⟨rfl, hg⟩
  go_wp2
  go_ret
  exact ⟨rfl, Gr.trans gV hg⟩

theorem law_AggBetween (A : Option Addr) (cap : Nat) (l : List Vl) (w : World) (_hl : l.length ≤ maxLen) (hr : Rv w A l) :
    Calls Try.prog 5 #[.slice A l.length cap] w fun e w' => e = .returned (.bool true) ∧ Gr w w' := by
  by_cases h200 : (200 : Int) < (l.length : Int)
  · go_enter Try.func5, Try.ntmps5
    go_wp2
    go_ret
    exact ⟨rfl, Gr.refl _⟩
  have hlm : l.length ≤ 1000000 := by omega
  obtain ⟨K, hK⟩ : ∃ K, kn l = K := ⟨_, rfl⟩
  rcases Nat.eq_zero_or_pos K.length with h0 | h0
  · have hK0 : kn l = [] := by rw [hK]; exact List.eq_nil_of_length_eq_zero h0
    have hv : ∀ kind, aggV kind l = ⟨false, 0⟩ := fun kind => by simp [aggV, ofK, hK0]
    refine betw_nil A cap l w h200 hr hK0 ?_ ?_ ?_ ?_
    · exact Lib.hid (fun w hr => by have := agg_of_any 5 A cap l w hlm hr; rw [hv] at this; exact this)
    · exact Lib.hid (fun w hr => by have := agg_of_any 4 A cap l w hlm hr; rw [hv] at this; exact this)
    · exact Lib.hid (fun w hr => by have := agg_of_any 1 A cap l w hlm hr; rw [hv] at this; exact this)
    · exact Lib.hid (fun w hr => by have := agg_of_any 3 A cap l w hlm hr; rw [hv] at this; exact this)
  · have hkn : ∀ v ∈ K, knB v = true := fun v hv => by rw [← hK] at hv; exact (List.mem_filter.1 hv).2
    have hlK : K.length ≤ 200 := by have := kn_len l; rw [hK] at this; omega
    obtain ⟨b1, b2⟩ := betw h0 hlK hkn
    have v5 : aggV 5 l = minV K[0] K := by simp [aggV, ofK, hK, h0]
    have v4 : aggV 4 l = maxV K[0] K := by simp [aggV, ofK, hK, h0]
    have v1 : aggV 1 l = divV (addV K) (intV (K.length : Nat)) := by simp [aggV, ofK, hK, h0]
    have v3 : aggV 3 l = K[K.length - 1] := by simp [aggV, ofK, hK, h0]
    refine betw_some A cap l (minV K[0] K) (maxV K[0] K) (divV (addV K) (intV (K.length : Nat))) K[K.length - 1] w h200 hr K hK h0 ?_ ?_ ?_ ?_ (Lib.hid b1) (Lib.hid b2) (Lib.hid rfl) (Lib.hid ?_)
    · exact Lib.hid (fun w hr => by have := agg_of_any 5 A cap l w hlm hr; rw [v5] at this; exact this)
    · exact Lib.hid (fun w hr => by have := agg_of_any 4 A cap l w hlm hr; rw [v4] at this; exact this)
    · exact Lib.hid (fun w hr => by have := agg_of_any 1 A cap l w hlm hr; rw [v1] at this; exact this)
    · exact Lib.hid (fun w hr => by have := agg_of_any 3 A cap l w hlm hr; rw [v3] at this; exact this)
    · intro i h
      rw [knB_ok (hkn _ (List.getElem_mem h)), knB_ok (hkn _ (List.getElem_mem _))]
      rfl
end Go.Proofs.Ytoojjejdbpkbhaa
