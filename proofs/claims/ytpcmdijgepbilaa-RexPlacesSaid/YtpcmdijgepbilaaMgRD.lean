/- moved of the reference: a copy of instructions, so many places further. · lay of the reference's reader. · append at one operation of a drawn region, the source a slice that reads as a list, nil let in. · put and cut of the reference's reader. · cut of the reference's reader. -/
import Derived.Test.YtpcmdijgepbilaaRfPairs
import Derived.Test.YtpcmdijgepbilaaAppend
namespace Go.Proofs.Ytpcmdijgepbilaa
set_option linter.unusedVariables false
set_option linter.unusedSimpArgs false
open Go.RowKit

/-- places that are no great numbers. -/
def Sm (l : List In) : Prop := ∀ v ∈ l, -100000 ≤ v.x ∧ v.x ≤ 100000 ∧ -100000 ≤ v.y ∧ v.y ≤ 100000
theorem Sm.mv {l : List In} (h : Sm l) (b : Int) : mvL b l = mvL b l := rfl
theorem Rd.rinst (w : World) (v : In) : Rd (w.alloc (.cells #[.int .i64 v.op, .int .i64 v.x, .int .i64 v.y, .string ⟨v.ps.toArray⟩] 57)) 4 (some ⟨w.heap.size, 0, none⟩) 1 (icells [v]) := by
  refine ⟨rfl, fun _ => ⟨_, rfl, by simp, fun j u hu => ?_⟩⟩
  have := (World.ownsRow_lit (base := 0) (e := 57) (size := 4) w #[.int .i64 v.op, .int .i64 v.x, .int .i64 v.y, .string ⟨v.ps.toArray⟩] 1 (Nat.zero_le _) (by decide) rfl).cells (g := w.heap.size) rfl j u (by simpa [icells] using hu)
  exact this
theorem Rd.rinst1 (w : World) (o : Obj) (v : In) : Rd ((w.alloc o).alloc (.cells #[.int .i64 v.op, .int .i64 v.x, .int .i64 v.y, .string ⟨v.ps.toArray⟩] 57)) 4 (some ⟨w.heap.size + 1, 0, none⟩) 1 (icells [v]) := by
  have := Rd.rinst (w.alloc o) v
  rwa [show (w.alloc o).heap.size = w.heap.size + 1 by simp] at this
theorem Gr.grown2 {w wr w9 : World} {o1 o2 : Obj} {v : Value} (h : Gr w wr) (g : ((wr.alloc o1).alloc o2).grownBy w9 v.ownBlock) (hl : ∀ k, v.ownBlock = some k → w.heap.size ≤ k ∧ k < wr.heap.size) : Gr w w9 :=
  Below.grown ((h.alloc o1).alloc o2) g (((h.alloc o1).alloc o2).size) (fun j hj => (hl j hj).1)
theorem take_mv (b : Int) (l : List In) (k : Nat) (h : k < l.length) : mvL b (l.take (k + 1)) = mvL b (l.take k) ++ [mvI b l[k]] := by
  rw [List.take_succ_eq_append_getElem h]
  simp only [mvL, List.map_append, List.map_cons, List.map_nil]
/-- a slice of instructions is handed back. -/
def RetM (w : World) (res : List In) (e : Ending) (w' : World) : Prop := ∃ A' c', e = .returned (.slice A' res.length c') ∧ Ri w' A' res ∧ Gr w w' ∧ ∀ ad, A' = some ad → w.heap.size ≤ ad.block ∧ ad.block < w'.heap.size
set_option maxRecDepth 100000 in
set_option maxHeartbeats 3200000 in
theorem moved_any (w : World) (A : Option Addr) (ca : Nat) (l : List In) (hr : Ri w A l) (hl : l.length ≤ 4096) (hs : Sm l) (b : Int) (hb0 : -5000 ≤ b) (hb1 : b ≤ 5000) :
    Calls Try.prog 31 #[.slice A l.length ca, .int .i64 b] w (RetM w (mvL b l)) := by
  obtain ⟨i0, hi0, hz0, hz1, hz2⟩ := info_parts info_rinst
  obtain ⟨n, hn⟩ : ∃ n, n = l.length := ⟨_, rfl⟩
  rw [← hn] at hl ⊢
  have Hn := Lib.hid hn
  have Hs := Lib.hid hs
  have Hr := Lib.hid hr
  clear hn hs hr
  go_enter Try.func31, Try.ntmps31
  go_wp2
  go_loopw [5, 6] (fun v i wr => ∃ k : Nat, k ≤ n ∧ i = .int .i64 k ∧ Gr w wr ∧ wr.ownsRow w.heap.size 57 4 v k (icells (mvL b (l.take k)))) (fun _ i _ => n - (intOf i).toNat)
  case atStart => exact ⟨0, Nat.zero_le _, rfl, Gr.refl _, World.ownsRow_nil _ _ _ _⟩
  case round =>
    obtain ⟨k, hk, rfl, hgr, own⟩ := hrel
    by_cases hlt : k < n
    · have hkl : k < l.length := by rw [← Hn.out]; exact hlt
      have hlt' : (k : Int) < (n : Int) := by omega
      obtain ⟨ad, rfl, hadlt, d0, d1, d2, d3⟩ := Ri.at (Hr.out.gr hgr) hkl
      obtain ⟨v0, hv0⟩ : ∃ v, v = l[k] := ⟨_, rfl⟩
      rw [← hv0] at d0 d1 d2 d3
      obtain ⟨s0, s1, s2, s3⟩ := Hs.out v0 (by rw [hv0]; exact List.getElem_mem _)
      have htk := take_mv b l k hkl
      rw [← hv0] at htk
      have Htk := Lib.hid htk
      obtain ⟨VA, vc, rfl⟩ := own_form own
      have hzw : w.heap.size ≤ wr.heap.size := hgr.size
      have hol := own.lt
      clear hv0 htk
      obtain ⟨op, x, y, ps⟩ := v0
      simp only at d0 d1 d2 d3 s0 s1 s2 s3
      by_cases h2 : op = 2
      · subst h2
        have Hx : True := trivial
        go_wp2_with (at_builtin; refine wpList_append_rd rfl (.tmp 39) (.tmp 41) 28 rfl w.heap.size 57 i0 _ 4 40 Try.underlying28 hi0 hz0 hz1 hz2 rfl (by decide) _ k _ rfl ((own.alloc (.cells #[.int .i64 2, .int .i64 (x + b), .int .i64 (y + b), .string ⟨ps.toArray⟩] 57)).alloc (.cells #[.int .i64 2, .int .i64 (x + b), .int .i64 (y + b), .string ⟨ps.toArray⟩] 57)) (some ⟨wr.heap.size + 1, 0, none⟩) 1 1 (icells [⟨2, x + b, y + b, ps⟩]) rfl (Rd.rinst1 wr _ ⟨2, x + b, y + b, ps⟩) (icells_one _) (by unfold maxLen; omega) (by omega) (by simp; omega) ?_; intro v9 w9 own9 hgr9 hob9; obtain ⟨V9, c9, rfl⟩ := own_form own9; have Hg9 := Lib.hid (And.intro own9 hgr9); clear own9 hgr9 hob9)
        go_roundw
        case rel =>
          refine ⟨k + 1, by omega, by go_num, ?_, ?_⟩
          · exact hgr.grown2 Hg9.out.2 hol
          · have := Hg9.out.1
            rw [Htk.out, icells_append]
            simpa [mvI] using this
        case measure => simp [intOf]; omega
      · by_cases h3 : op = 3
        · subst h3
          go_wp2_with (at_builtin; refine wpList_append_rd rfl (.tmp 39) (.tmp 41) 28 rfl w.heap.size 57 i0 _ 4 40 Try.underlying28 hi0 hz0 hz1 hz2 rfl (by decide) _ k _ rfl ((own.alloc (.cells #[.int .i64 3, .int .i64 (x + b), .int .i64 (y), .string ⟨ps.toArray⟩] 57)).alloc (.cells #[.int .i64 3, .int .i64 (x + b), .int .i64 (y), .string ⟨ps.toArray⟩] 57)) (some ⟨wr.heap.size + 1, 0, none⟩) 1 1 (icells [⟨3, x + b, y, ps⟩]) rfl (Rd.rinst1 wr _ ⟨3, x + b, y, ps⟩) (icells_one _) (by unfold maxLen; omega) (by omega) (by simp; omega) ?_; intro v9 w9 own9 hgr9 hob9; obtain ⟨V9, c9, rfl⟩ := own_form own9; have Hg9 := Lib.hid (And.intro own9 hgr9); clear own9 hgr9 hob9)
          go_roundw
          case rel =>
            refine ⟨k + 1, by omega, by go_num, ?_, ?_⟩
            · exact hgr.grown2 Hg9.out.2 hol
            · have := Hg9.out.1
              rw [Htk.out, icells_append]
              simpa [mvI] using this
          case measure => simp [intOf]; omega
        · have t2 : (op == 2) = false := beq_eq_false_iff_ne.2 h2
          have t3 : (op == 3) = false := beq_eq_false_iff_ne.2 h3
          have HO := Lib.hid (And.intro t2 t3)
          clear h2 h3
          go_wp2_with (at_builtin; refine wpList_append_rd rfl (.tmp 39) (.tmp 41) 28 rfl w.heap.size 57 i0 _ 4 40 Try.underlying28 hi0 hz0 hz1 hz2 rfl (by decide) _ k _ rfl ((own.alloc (.cells #[.int .i64 op, .int .i64 (x), .int .i64 (y), .string ⟨ps.toArray⟩] 57)).alloc (.cells #[.int .i64 op, .int .i64 (x), .int .i64 (y), .string ⟨ps.toArray⟩] 57)) (some ⟨wr.heap.size + 1, 0, none⟩) 1 1 (icells [⟨op, x, y, ps⟩]) rfl (Rd.rinst1 wr _ ⟨op, x, y, ps⟩) (icells_one _) (by unfold maxLen; omega) (by omega) (by simp; omega) ?_; intro v9 w9 own9 hgr9 hob9; obtain ⟨V9, c9, rfl⟩ := own_form own9; have Hg9 := Lib.hid (And.intro own9 hgr9); clear own9 hgr9 hob9)
          go_roundw
          case rel =>
            refine ⟨k + 1, by omega, by go_num, ?_, ?_⟩
            · exact hgr.grown2 Hg9.out.2 hol
            · have := Hg9.out.1
              rw [Htk.out, icells_append]
              simpa [mvI, HO.out] using this
          case measure => simp [intOf]; omega
    · have hkn : k = n := by omega
      have hge : ¬ (k : Int) < (n : Int) := by omega
      have HK := Lib.hid hkn
      obtain ⟨VA, vc, rfl⟩ := own_form own
      have Hown := Lib.hid own
      clear hkn own
      go_wp2
      go_ret
      have own := Hown.out
      rw [HK.out, Hn.out, List.take_length] at own
      have hkl : k = l.length := by rw [HK.out, Hn.out]
      refine ⟨VA, vc, by rw [mvL_len, ← hkl]; rfl, ?_, hgr, fun ad h => own.lt ad.block (by rw [h]; rfl)⟩
      have hrd := Rd.own own
      unfold Ri
      rw [mvL_len]
      exact hrd
end Go.Proofs.Ytpcmdijgepbilaa
namespace Go.Proofs.Ytpcmdijgepbilaa
set_option linter.unusedVariables false
set_option linter.unusedSimpArgs false
open Go.RowKit

/-- what lay's region reads. -/
def LyS (R t : Nat) (A : Option Addr) (L c : Nat) (op x y : Int) (ps : List UInt8) (W : World) : Prop :=
  W.cell? ⟨R, 5, none⟩ = some (.slice A L c) ∧ W.frozen? ⟨R, 5, none⟩ = false ∧ W.cell? ⟨t, 0, none⟩ = some (.int .i64 op) ∧ W.cell? ⟨t, 1, none⟩ = some (.int .i64 x) ∧ W.cell? ⟨t, 2, none⟩ = some (.int .i64 y) ∧ W.cell? ⟨t, 3, none⟩ = some (.string ⟨ps.toArray⟩) ∧ R < W.heap.size ∧ t < W.heap.size
theorem LyS.kept {R t L c : Nat} {A : Option Addr} {op x y : Int} {ps : List UInt8} {W W' : World} (h : LyS R t A L c op x y ps W) (hs : W.heap.size ≤ W'.heap.size) (hR : W'.heap[R]? = W.heap[R]?) (ht : W'.heap[t]? = W.heap[t]?) : LyS R t A L c op x y ps W' := by
  obtain ⟨h0, h1, h2, h3, h4, h5, h6, h7⟩ := h
  exact ⟨(World.cell?_of_block (a := ⟨R, 5, none⟩) hR).trans h0, (World.frozen?_of_block (a := ⟨R, 5, none⟩) hR).trans h1, (World.cell?_of_block (a := ⟨t, 0, none⟩) ht).trans h2, (World.cell?_of_block (a := ⟨t, 1, none⟩) ht).trans h3, (World.cell?_of_block (a := ⟨t, 2, none⟩) ht).trans h4, (World.cell?_of_block (a := ⟨t, 3, none⟩) ht).trans h5, Nat.lt_of_lt_of_le h6 hs, Nat.lt_of_lt_of_le h7 hs⟩
theorem LyS.gr {R t L c : Nat} {A : Option Addr} {op x y : Int} {ps : List UInt8} {W W' : World} (h : LyS R t A L c op x y ps W) (g : Gr W W') : LyS R t A L c op x y ps W' := h.kept g.size (Below.block g R h.2.2.2.2.2.2.1) (Below.block g t h.2.2.2.2.2.2.2)
/-- one more has been laid. -/
def RetL (w : World) (R : Nat) (s : ByteArray) (n d e g : Nat) (A : Option Addr) (res : List In) (v : Value) (x : Ending) (w' : World) : Prop :=
  x = .returned v ∧ ∃ A', RfW w' R s n d e g A' res ∧ WX R w (blk A) w' (blk A')
theorem RfC.laid {w w9 : World} {R n d e g c c9 m : Nat} {s : ByteArray} {A A9 : Option Addr} {code news : List In} (h : RfC w R s n d e g A code c) (hn : news.length = m) (own9 : w9.ownsRow (R + 1) 57 4 (.slice A9 (code.length + m) c9) (code.length + m) (icells code ++ icells news)) {V : World} (gV : Gr w V) (hgr : V.grownBy w9 (blk A)) (hob : blk A9 = blk A ∨ blk A9 = some V.heap.size) :
    RfW (w9.setCell ⟨R, 5, none⟩ (.slice A9 (code.length + m) c9)) R s n d e g A9 (code ++ news) ∧ WX R w (blk A) (w9.setCell ⟨R, 5, none⟩ (.slice A9 (code.length + m) c9)) (blk A9) := by
  have hrow : ∀ k, blk A = some k → R < k ∧ k < w.heap.size := RfW.row ⟨c, h⟩
  have hRA : some R ≠ blk A := fun e => by have := (hrow R e.symm).1; omega
  have hlt := h.lt
  have hR9 : w9.heap[R]? = w.heap[R]? := (hgr.block R (Nat.lt_of_lt_of_le hlt gV.size) hRA).trans (Below.block gV R hlt)
  have hx : ∀ i, w9.cell? ⟨R, i, none⟩ = w.cell? ⟨R, i, none⟩ := fun i => World.cell?_of_block (a := ⟨R, i, none⟩) hR9
  have hy : ∀ i, w9.frozen? ⟨R, i, none⟩ = w.frozen? ⟨R, i, none⟩ := fun i => World.frozen?_of_block (a := ⟨R, i, none⟩) hR9
  have hz9 : R < w9.heap.size := Nat.lt_of_lt_of_le (Nat.lt_of_lt_of_le hlt gV.size) hgr.size
  have hlen : (code ++ news).length = code.length + m := by rw [List.length_append, hn]
  have o : ∀ j, j ≠ 5 → (w9.setCell ⟨R, 5, none⟩ (.slice A9 (code.length + m) c9)).cell? ⟨R, j, none⟩ = w9.cell? ⟨R, j, none⟩ := fun j hj => World.cell?_setCell_other w9 ⟨R, 5, none⟩ ⟨R, j, none⟩ _ (by first | (simp; done) | (simp; omega))
  have k5 := (hx 5).trans h.c5
  have k6 := (hy 5).trans h.f5
  refine ⟨⟨c9, (o 0 (by decide)).trans ((hx 0).trans h.c0), (o 1 (by decide)).trans ((hx 1).trans h.c1), (o 2 (by decide)).trans ((hx 2).trans h.c2), (o 3 (by decide)).trans ((hx 3).trans h.c3), (o 4 (by decide)).trans ((hx 4).trans h.c4), ?_, by rw [World.frozen?_setCell]; exact (hy 1).trans h.f1, by rw [World.frozen?_setCell]; exact (hy 2).trans h.f2, by rw [World.frozen?_setCell]; exact (hy 3).trans h.f3, by rw [World.frozen?_setCell]; exact (hy 4).trans h.f4, by rw [World.frozen?_setCell]; exact (hy 5).trans h.f5, ?_, by simpa using hz9⟩, ?_⟩
  · rw [hlen]
    clear hx hy o hgr hob own9 hR9
    go_simp
  · rw [hlen, icells_append]
    exact own_set own9 (p := ⟨R, 5, none⟩) (Nat.lt_succ_self _) _
  · have x1 : WX R w (blk A) V (blk A) := WX.gr _ gV
    exact (x1.trans (WX.grown (B := R) hgr hob)).set (p := ⟨R, 5, none⟩) (.inl rfl) _

set_option maxRecDepth 100000 in
set_option maxHeartbeats 3200000 in
theorem rlay_any {w : World} {R n d e g : Nat} {s : ByteArray} {A : Option Addr} {code : List In} (h : RfW w R s n d e g A code) (op x y : Int) (ps : List UInt8) (hb : code.length ≤ 4000) :
    Calls Try.prog 16 #[.pointer (some ⟨R, 0, none⟩), .agg #[.int .i64 op, .int .i64 x, .int .i64 y, .string ⟨ps.toArray⟩]] w (RetL w R s n d e g A (code ++ [⟨op, x, y, ps⟩]) (.int .i64 code.length)) := by
  obtain ⟨i0, hi0, hz0, hz1, hz2⟩ := info_parts info_rinst
  obtain ⟨c, h⟩ := h
  have hS : LyS R w.heap.size A code.length c op x y ps ((w.alloc (.cells #[.int .i64 op, .int .i64 x, .int .i64 y, .string ⟨ps.toArray⟩] 57)).drew) := by
    have hc5 := h.c5
    have hf5 := h.f5
    have hlt := h.lt
    refine ⟨(Below.cell (Gr.alloc (Gr.refl w) _) (p := ⟨R, 5, none⟩) hlt).trans hc5, (Below.frozen (Gr.alloc (Gr.refl w) _) (p := ⟨R, 5, none⟩) hlt).trans hf5, ?_, ?_, ?_, ?_, by simp; omega, by simp⟩
    all_goals go_simp
  have own8 := h.own
  have hvl := own8.lt
  have hlt := h.lt
  have Hh := Lib.hid h
  clear h
  go_enter Try.func16, Try.ntmps16
  go_upto_region 1 with (fail)
  have hS0 := hS
  clear hS
  obtain ⟨V, hV⟩ : ∃ V, V = (w.alloc (.cells #[.int .i64 op, .int .i64 x, .int .i64 y, .string ⟨ps.toArray⟩] 57)).drew := ⟨_, rfl⟩
  have gV : Gr w V := by rw [hV]; exact (Gr.alloc (Gr.refl w) _).drew
  have hVz : V.heap.size = w.heap.size + 1 := by rw [hV]; simp
  refine wp_region_Z 12 (LyS R w.heap.size A code.length c op x y ps) (by kernel_rfl) ?_
  rw [← hV] at hS0 ⊢
  have HV := Lib.hid (And.intro hV hVz)
  clear hV hVz
  refine wpAnyZ_take (i := 0) (v := ?v1) rfl (by kernel_rfl) (fun _ _ _ h => h) (by rfl) (fun W hS => ?h1) hS0 ?r1
  case h1 =>
    go_simp
    rfl
  simp only [Act.put, List.getElem_toArray, List.getElem_cons_succ, List.getElem_cons_zero, List.setIfInBounds_toArray, List.set_cons_zero, List.set_cons_succ]
  refine wpAnyZ_take (i := 1) (v := ?v2) rfl (by kernel_rfl) (fun _ _ _ h => h) (by rfl) (fun W hS => ?h2) hS0 ?r2
  case h2 =>
    go_simp
    rfl
  simp only [Act.put, List.getElem_toArray, List.getElem_cons_succ, List.getElem_cons_zero, List.setIfInBounds_toArray, List.set_cons_zero, List.set_cons_succ]
  refine wpAnyZ_take (i := 2) (v := ?v3) rfl (by kernel_rfl) (fun _ _ _ h => h) (by rfl) (fun W hS => ?h3) hS0 ?r3
  case h3 =>
    go_simp
    rfl
  simp only [Act.put, List.getElem_toArray, List.getElem_cons_succ, List.getElem_cons_zero, List.setIfInBounds_toArray, List.set_cons_zero, List.set_cons_succ]
  refine wpAnyZ_take (i := 3) (v := ?v4) rfl (by kernel_rfl) (fun _ _ _ h => h) (by rfl) (fun W hS => ?h4) hS0 ?r4
  case h4 =>
    go_simp
    rfl
  simp only [Act.put, List.getElem_toArray, List.getElem_cons_succ, List.getElem_cons_zero, List.setIfInBounds_toArray, List.set_cons_zero, List.set_cons_succ]
  refine wpAnyZ_take (i := 4) (v := ?v5) rfl (by kernel_rfl) (fun _ _ _ h => h) (by rfl) (fun W hS => ?h5) hS0 ?r5
  case h5 =>
    go_simp
    rfl
  simp only [Act.put, List.getElem_toArray, List.getElem_cons_succ, List.getElem_cons_zero, List.setIfInBounds_toArray, List.set_cons_zero, List.set_cons_succ]
  refine wpAnyZ_take (i := 5) (v := ?v6) rfl (by kernel_rfl) (fun _ _ _ h => h) (by rfl) (fun W hS => ?h6) hS0 ?r6
  case h6 =>
    obtain ⟨s0, -⟩ := hS
    go_simp
    rfl
  simp only [Act.put, List.getElem_toArray, List.getElem_cons_succ, List.getElem_cons_zero, List.setIfInBounds_toArray, List.set_cons_zero, List.set_cons_succ]
  refine wpAnyZ_take (i := 6) (v := ?v7) rfl (by kernel_rfl) (fun _ _ _ h => h) (by rfl) (fun W hS => ?h7) hS0 ?r7
  case h7 =>
    obtain ⟨-, -, t0, t1, t2, t3, -⟩ := hS
    go_simp
    rfl
  simp only [Act.put, List.getElem_toArray, List.getElem_cons_succ, List.getElem_cons_zero, List.setIfInBounds_toArray, List.set_cons_zero, List.set_cons_succ]
  refine wpAnyZ_ready (rs := [7]) (by kernel_rfl) (by simp) ?_
  refine AllReadyZ.cons (i := 7) rfl (by kernel_rfl) ?zx7 AllReadyZ.nil
  intro K hK
  simp only [List.getElem_toArray, List.getElem_cons_succ, List.getElem_cons_zero]
  have hS7 := hS0.gr (Gr.alloc (Gr.refl _) (.cells #[.int .i64 op, .int .i64 x, .int .i64 y, .string ⟨ps.toArray⟩] 57))
  have ownV : V.ownsRow (R + 1) 57 4 (.slice A code.length c) code.length (icells code) := by rw [HV.out.1]; exact own8.alloc _
  have own7 := ownV.alloc (.cells #[.int .i64 op, .int .i64 x, .int .i64 y, .string ⟨ps.toArray⟩] 57)
  have hrx := Rd.rinst V ⟨op, x, y, ps⟩
  clear own8 ownV
  go_simp
  refine hK.out _ _ (fun hnz => ?zs7) (fun _ => ?zr7)
  case zs7 => exact hS7
  clear hK K
  try (simp only [Act.put, List.getElem_toArray, List.getElem_cons_succ, List.getElem_cons_zero, List.setIfInBounds_toArray, List.set_cons_zero, List.set_cons_succ])
  refine wpAnyZ_ready (rs := [8]) (by kernel_rfl) (by simp) ?_
  refine AllReadyZ.cons (i := 8) rfl (by kernel_rfl) ?zx8 AllReadyZ.nil
  intro K hK
  simp only [List.getElem_toArray, List.getElem_cons_succ, List.getElem_cons_zero]
  refine wp_append_rd (.tmp 10) (.tmp 12) 28 rfl (R + 1) 57 i0 _ 4 40 Try.underlying28 hi0 hz0 hz1 hz2 rfl (by decide) _ code.length _ rfl own7 ⟨V.heap.size, 0, none⟩ 1 _ (icells [⟨op, x, y, ps⟩]) rfl hrx (by decide) (icells_one _) (by unfold maxLen; omega) (by omega) (by have := gV.size; simp; omega) ?_
  intro v' w9 own9 hgr9 hob9
  obtain ⟨A9, c9, hv9⟩ := own_form own9
  subst hv9
  have hx : ∀ (A : Option Addr) (n c : Nat), (Value.slice A n c).ownBlock = blk A := fun A n c => by cases A <;> rfl
  have hgr9 : (V.alloc (.cells #[.int .i64 op, .int .i64 x, .int .i64 y, .string ⟨ps.toArray⟩] 57)).grownBy w9 (Value.slice A code.length c).ownBlock := hgr9
  have hob9 : (Value.slice A9 (code.length + 1) c9).ownBlock = (Value.slice A code.length c).ownBlock ∨ (Value.slice A9 (code.length + 1) c9).ownBlock = some (V.alloc (.cells #[.int .i64 op, .int .i64 x, .int .i64 y, .string ⟨ps.toArray⟩] 57)).heap.size := hob9
  rw [hx] at hgr9
  rw [hx, hx] at hob9
  have hS9 : LyS R w.heap.size A code.length c op x y ps w9 := hS7.kept hgr9.size (hgr9.block R hS7.2.2.2.2.2.2.1 (fun e => by have := (hvl R (by rw [hx]; exact e.symm)).1; omega)) (hgr9.block w.heap.size hS7.2.2.2.2.2.2.2 (fun e => by have := (hvl w.heap.size (by rw [hx]; exact e.symm)).2; omega))
  have Hg9 := Lib.hid (And.intro own9 (And.intro hgr9 hob9))
  clear own9 hgr9 hob9 hS7 own7 hrx
  refine hK.out _ _ (fun hnz => ?zs8) (fun _ => ?zr8)
  case zs8 => exact hS9
  clear hK K
  try (simp only [Act.put, List.getElem_toArray, List.getElem_cons_succ, List.getElem_cons_zero, List.setIfInBounds_toArray, List.set_cons_zero, List.set_cons_succ])
  refine wpAnyZ_ready (rs := [9]) (by kernel_rfl) (by simp) ?_
  refine AllReadyZ.cons (i := 9) rfl (by kernel_rfl) ?zx9 AllReadyZ.nil
  intro K hK
  simp only [List.getElem_toArray, List.getElem_cons_succ, List.getElem_cons_zero]
  go_simp
  refine hK.out _ _ (fun hnz => ?zs9) (fun _ => ?zr9)
  case zs9 => exact hS9
  clear hK K
  try (simp only [Act.put, List.getElem_toArray, List.getElem_cons_succ, List.getElem_cons_zero, List.setIfInBounds_toArray, List.set_cons_zero, List.set_cons_succ])
  refine wpAnyZ_ready (rs := [10]) (by kernel_rfl) (by simp) ?_
  refine AllReadyZ.cons (i := 10) rfl (by kernel_rfl) ?zx10 AllReadyZ.nil
  intro K hK
  simp only [List.getElem_toArray, List.getElem_cons_succ, List.getElem_cons_zero]
  go_simp
  refine hK.out _ _ (fun hnz => ?zs10) (fun _ => ?zr10)
  case zs10 => exact hS9
  clear hK K
  try (simp only [Act.put, List.getElem_toArray, List.getElem_cons_succ, List.getElem_cons_zero, List.setIfInBounds_toArray, List.set_cons_zero, List.set_cons_succ])
  refine wpAnyZ_ready (rs := [11]) (by kernel_rfl) (by simp) ?_
  refine AllReadyZ.cons (i := 11) rfl (by kernel_rfl) ?zx11 AllReadyZ.nil
  intro K hK
  simp only [List.getElem_toArray, List.getElem_cons_succ, List.getElem_cons_zero]
  go_simp
  refine hK.out _ _ (fun hnz => ?zs11) (fun _ => ?zr11)
  case zs11 => exact hS9
  clear hK K
  try (simp only [Act.put, List.getElem_toArray, List.getElem_cons_succ, List.getElem_cons_zero, List.setIfInBounds_toArray, List.set_cons_zero, List.set_cons_succ])
  refine wpAnyZ_ready (rs := [12]) (by kernel_rfl) (by simp) ?_
  refine AllReadyZ.cons (i := 12) rfl (by kernel_rfl) ?zx12 AllReadyZ.nil
  intro K hK
  simp only [List.getElem_toArray, List.getElem_cons_succ, List.getElem_cons_zero]
  obtain ⟨s0, s1, -, -, -, -, hzR, -⟩ := id hS9
  go_simp
  refine hK.out _ _ (fun hnz => ?zs12) (fun _ => ?zr12)
  case zs12 => exact absurd rfl hnz
  clear hK K
  try (simp only [Act.put, List.getElem_toArray, List.getElem_cons_succ, List.getElem_cons_zero, List.setIfInBounds_toArray, List.set_cons_zero, List.set_cons_succ])
  refine wpAnyZ_done (by kernel_rfl) ?_ _
  clear s1
  go_wp2
  go_ret
  obtain ⟨own9, hgr9, hob9⟩ := Hg9.out
  obtain ⟨f1, f2⟩ := Hh.out.laid (news := [⟨op, x, y, ps⟩]) (m := 1) rfl own9 (gV.alloc _) hgr9 hob9
  exact ⟨rfl, A9, f1, f2⟩
end Go.Proofs.Ytpcmdijgepbilaa
namespace Go.Proofs.Ytpcmdijgepbilaa
set_option linter.unusedVariables false
set_option linter.unusedSimpArgs false
open Go.RowKit

section
variable {P : Program} {w : World}
theorem Rd.grown {w w' : World} {size n : Nat} {A : Option Addr} {xs : List Value} {row : Option Nat} (h : Rd w size A n xs) (hg : w.grownBy w' row) (hne : ∀ ad, A = some ad → some ad.block ≠ row) : Rd w' size A n xs :=
  ⟨h.1, fun hn => by
    obtain ⟨ad, e, hb, hc⟩ := h.2 hn
    exact ⟨ad, e, Nat.lt_of_lt_of_le hb hg.size, fun j u hu => hg.cell (hc j u hu) (by rw [add_blk]; exact hne ad e)⟩⟩
/-- append at one operation of a drawn region, the source a slice that reads as a list, nil let in. -/
theorem wp_append_rd0 {o : Oper} {a : Act} {Q : Exit → Act → World → Prop} {K : Act → World → Prop} (s x : Operand) (t : TypeId)
    (ho : o.op = .call { callee := .builtin .append, args := #[s, x], argTypes := #[t, t] })
    (base : Nat) (e : TypeId) (i : TypeInfo) (z : Value) (size bytes : Nat) (ht : P.underlying t = some (.slice e)) (hi : P.info? e = some i) (hz : i.zero = some z)
    (hsize : i.size = size) (hby : i.bytes = bytes) (hzs : z.cells.size = size) (hsz : 0 < size)
    (v : Value) (n : Nat) (xs : List Value) (hs : a.eval s = v) (hown : w.ownsRow base e size v n xs)
    (A : Option Addr) (m c : Nat) (news : List Value) (hx : a.eval x = .slice A m c) (hr : Rd w size A m news) (h1 : ∀ u ∈ news, u.oneCell' = true)
    (h63 : n + m ≤ maxLen) (hbytes : (n + m) * bytes ≤ 140737488355328) (hbase : base ≤ w.heap.size)
    (h : ∀ v' w', w'.ownsRow base e size v' (n + m) (xs ++ news) → w.grownBy w' v.ownBlock → (v'.ownBlock = v.ownBlock ∨ v'.ownBlock = some w.heap.size) → K (a.put o.dst v') w') : Oper.wp P o a w K Q := by
  have hrun : ∃ v' w', (Builtin.append_ #[t, t] o.type #[v, .slice A m c]).run P w = .ok v' w' ∧ w'.ownsRow base e size v' (n + m) (xs ++ news) ∧ w.grownBy w' v.ownBlock ∧ (v'.ownBlock = v.ownBlock ∨ v'.ownBlock = some w.heap.size) := by
    rcases Nat.eq_zero_or_pos m with hm | hm
    · subst hm
      have hn : news = [] := List.eq_nil_of_length_eq_zero (by simpa using hr.1)
      subst hn
      cases A with
      | none => exact ⟨v, w, append_nil_run base t o.type e i size ht hi hown c, by simpa using hown, World.grownBy.refl w _, .inl rfl⟩
      | some ad =>
        obtain ⟨v', w', k1, k2, k3, _, k5⟩ := run_append_own_at (P := P) w base t o.type e i z size bytes ht hi hz hsize hby hzs hsz v n xs hown ad 0 c [] (by simp) (by intro j u hu; simp at hu) (by intro u hu; simp at hu) h63 hbytes hbase
        exact ⟨v', w', k1, k2, k3, k5⟩
    · obtain ⟨ad, rfl, _, hc⟩ := hr.2 hm
      obtain ⟨v', w', k1, k2, k3, _, k5⟩ := run_append_own_at (P := P) w base t o.type e i z size bytes ht hi hz hsize hby hzs hsz v n xs hown ad m c news hr.1 hc h1 h63 hbytes hbase
      exact ⟨v', w', k1, k2, k3, k5⟩
  obtain ⟨v', w', hr1, h2, h3, h4⟩ := hrun
  unfold Oper.wp execOp
  simp only [ho, resolve, invoke, builtin, Sem.run_bind, Sem.run_pure, Result.andThen_ok, List.map_toArray, List.map_cons, List.map_nil, hs, hx, hr1]
  exact h v' w' h2 h3 h4
end
end Go.Proofs.Ytpcmdijgepbilaa
namespace Go.Proofs.Ytpcmdijgepbilaa
set_option linter.unusedVariables false
set_option linter.unusedSimpArgs false
open Go.RowKit

/-- what put's region reads. -/
def PtS (R : Nat) (A : Option Addr) (L c : Nat) (W : World) : Prop := W.cell? ⟨R, 5, none⟩ = some (.slice A L c) ∧ W.frozen? ⟨R, 5, none⟩ = false ∧ R < W.heap.size
theorem PtS.kept {R L c : Nat} {A : Option Addr} {W W' : World} (h : PtS R A L c W) (hs : W.heap.size ≤ W'.heap.size) (hR : W'.heap[R]? = W.heap[R]?) : PtS R A L c W' :=
  ⟨(World.cell?_of_block (a := ⟨R, 5, none⟩) hR).trans h.1, (World.frozen?_of_block (a := ⟨R, 5, none⟩) hR).trans h.2.1, Nat.lt_of_lt_of_le h.2.2 hs⟩
theorem PtS.gr {R L c : Nat} {A : Option Addr} {W W' : World} (h : PtS R A L c W) (g : Gr W W') : PtS R A L c W' := h.kept g.size (Below.block g R h.2.2)
theorem own_gr' {w w' : World} {base : Nat} {e : TypeId} {size n : Nat} {v : Value} {xs : List Value} (h : w.ownsRow base e size v n xs) (g : Gr w w') : w'.ownsRow base e size v n xs := by
  obtain ⟨h1, ⟨hv, h0⟩ | ⟨q, cap, cur, hv, hb, hh, h2⟩⟩ := h
  · exact ⟨h1, .inl ⟨hv, h0⟩⟩
  · exact ⟨h1, .inr ⟨q, cap, cur, hv, hb, (Below.block g q (Array.getElem?_eq_some_iff.1 hh).1).trans hh, h2⟩⟩

set_option maxRecDepth 100000 in
set_option maxHeartbeats 3200000 in
theorem rput_any {w : World} {R n d e g : Nat} {s : ByteArray} {A A2 : Option Addr} {code l : List In} (h : RfW w R s n d e g A code) (c2 : Nat) (hr : Ri w A2 l) (hs : Sm l) (hb : code.length + l.length ≤ 4000) :
    Calls Try.prog 26 #[.pointer (some ⟨R, 0, none⟩), .slice A2 l.length c2] w (RetL w R s n d e g A (code ++ mvL code.length l) (.tuple #[])) := by
  obtain ⟨i0, hi0, hz0, hz1, hz2⟩ := info_parts info_rinst
  obtain ⟨c, h⟩ := h
  have own0 := h.own
  have hvl := own0.lt
  have hS0 : PtS R A code.length c w.drew := ⟨h.c5, h.f5, h.lt⟩
  have HM := moved_any w.drew A2 c2 l (hr.gr (Gr.drew (Gr.refl w))) (by omega) hs code.length (by omega) (by omega)
  have hlt := h.lt
  have hl1 : code.length ≤ 4000 := by omega
  have Hb := Lib.hid hb
  have Hh := Lib.hid h
  have HM2 := Lib.hid HM
  obtain ⟨m, hm⟩ : ∃ m, m = l.length := ⟨_, rfl⟩
  rw [← hm] at HM2 Hb ⊢
  have Hm := Lib.hid hm
  clear h HM hs hr hb hm
  go_enter Try.func26, Try.ntmps26
  refine wp_region_Z 18 (PtS R A code.length c) (by kernel_rfl) ?_
  refine wpAnyZ_take (i := 0) (v := ?v8) rfl (by kernel_rfl) (fun _ _ _ h => h) (by rfl) (fun W hS => ?h8) hS0 ?r8
  case h8 =>
    go_simp
    rfl
  simp only [Act.put, List.getElem_toArray, List.getElem_cons_succ, List.getElem_cons_zero, List.setIfInBounds_toArray, List.set_cons_zero, List.set_cons_succ]
  refine wpAnyZ_take (i := 1) (v := ?v9) rfl (by kernel_rfl) (fun _ _ _ h => h) (by rfl) (fun W hS => ?h9) hS0 ?r9
  case h9 =>
    go_simp
    rfl
  simp only [Act.put, List.getElem_toArray, List.getElem_cons_succ, List.getElem_cons_zero, List.setIfInBounds_toArray, List.set_cons_zero, List.set_cons_succ]
  refine wpAnyZ_take (i := 2) (v := ?v10) rfl (by kernel_rfl) (fun _ _ _ h => h) (by rfl) (fun W hS => ?h10) hS0 ?r10
  case h10 =>
    go_simp
    rfl
  simp only [Act.put, List.getElem_toArray, List.getElem_cons_succ, List.getElem_cons_zero, List.setIfInBounds_toArray, List.set_cons_zero, List.set_cons_succ]
  refine wpAnyZ_take (i := 3) (v := ?v11) rfl (by kernel_rfl) (fun _ _ _ h => h) (by rfl) (fun W hS => ?h11) hS0 ?r11
  case h11 =>
    go_simp
    rfl
  simp only [Act.put, List.getElem_toArray, List.getElem_cons_succ, List.getElem_cons_zero, List.setIfInBounds_toArray, List.set_cons_zero, List.set_cons_succ]
  refine wpAnyZ_take (i := 4) (v := ?v12) rfl (by kernel_rfl) (fun _ _ _ h => h) (by rfl) (fun W hS => ?h12) hS0 ?r12
  case h12 =>
    go_simp
    rfl
  simp only [Act.put, List.getElem_toArray, List.getElem_cons_succ, List.getElem_cons_zero, List.setIfInBounds_toArray, List.set_cons_zero, List.set_cons_succ]
  refine wpAnyZ_take (i := 5) (v := ?v13) rfl (by kernel_rfl) (fun _ _ _ h => h) (by rfl) (fun W hS => ?h13) hS0 ?r13
  case h13 =>
    obtain ⟨s0, -⟩ := hS
    go_simp
    rfl
  simp only [Act.put, List.getElem_toArray, List.getElem_cons_succ, List.getElem_cons_zero, List.setIfInBounds_toArray, List.set_cons_zero, List.set_cons_succ]
  refine wpAnyZ_take (i := 6) (v := ?v14) rfl (by kernel_rfl) (fun _ _ _ h => h) (by rfl) (fun W hS => ?h14) hS0 ?r14
  case h14 =>
    go_simp
    rfl
  simp only [Act.put, List.getElem_toArray, List.getElem_cons_succ, List.getElem_cons_zero, List.setIfInBounds_toArray, List.set_cons_zero, List.set_cons_succ]
  refine wpAnyZ_take (i := 7) (v := ?v15) rfl (by kernel_rfl) (fun _ _ _ h => h) (by rfl) (fun W hS => ?h15) hS0 ?r15
  case h15 =>
    go_simp
    rfl
  simp only [Act.put, List.getElem_toArray, List.getElem_cons_succ, List.getElem_cons_zero, List.setIfInBounds_toArray, List.set_cons_zero, List.set_cons_succ]
  refine wpAnyZ_take (i := 8) (v := ?v16) rfl (by kernel_rfl) (fun _ _ _ h => h) (by rfl) (fun W hS => ?h16) hS0 ?r16
  case h16 =>
    go_simp
    rfl
  simp only [Act.put, List.getElem_toArray, List.getElem_cons_succ, List.getElem_cons_zero, List.setIfInBounds_toArray, List.set_cons_zero, List.set_cons_succ]
  refine wpAnyZ_take (i := 9) (v := ?v17) rfl (by kernel_rfl) (fun _ _ _ h => h) (by rfl) (fun W hS => ?h17) hS0 ?r17
  case h17 =>
    go_simp
    rfl
  simp only [Act.put, List.getElem_toArray, List.getElem_cons_succ, List.getElem_cons_zero, List.setIfInBounds_toArray, List.set_cons_zero, List.set_cons_succ]
  refine wpAnyZ_take (i := 10) (v := ?v18) rfl (by kernel_rfl) (fun _ _ _ h => h) (by rfl) (fun W hS => ?h18) hS0 ?r18
  case h18 =>
    go_simp
    rfl
  simp only [Act.put, List.getElem_toArray, List.getElem_cons_succ, List.getElem_cons_zero, List.setIfInBounds_toArray, List.set_cons_zero, List.set_cons_succ]
  refine wpAnyZ_take (i := 11) (v := ?v19) rfl (by kernel_rfl) (fun _ _ _ h => h) (by rfl) (fun W hS => ?h19) hS0 ?r19
  case h19 =>
    obtain ⟨s0, -⟩ := hS
    go_simp
    rfl
  simp only [Act.put, List.getElem_toArray, List.getElem_cons_succ, List.getElem_cons_zero, List.setIfInBounds_toArray, List.set_cons_zero, List.set_cons_succ]
  refine wpAnyZ_take (i := 12) (v := ?v20) rfl (by kernel_rfl) (fun _ _ _ h => h) (by rfl) (fun W hS => ?h20) hS0 ?r20
  case h20 =>
    go_simp
    rfl
  simp only [Act.put, List.getElem_toArray, List.getElem_cons_succ, List.getElem_cons_zero, List.setIfInBounds_toArray, List.set_cons_zero, List.set_cons_succ]
  refine wpAnyZ_ready (rs := [13]) (by kernel_rfl) (by simp) ?_
  refine AllReadyZ.cons (i := 13) rfl (by kernel_rfl) ?zx13 AllReadyZ.nil
  intro K hK
  simp only [List.getElem_toArray, List.getElem_cons_succ, List.getElem_cons_zero]
  go_simp
  refine HM2.out.mono ?_; rintro x w7 ⟨A7, c7, rfl, hr7, hg7, hn7⟩
  rw [mvL_len, ← Hm.out]
  have hS7 := hS0.gr hg7
  have own7 := own_gr' own0 ((Gr.drew (Gr.refl w)).trans hg7)
  have g7 := (Gr.drew (Gr.refl w)).trans hg7
  unfold Ri at hr7
  rw [mvL_len, ← Hm.out] at hr7
  clear own0 hg7
  go_wp2_with fail
  refine hK.out _ _ (fun hnz => ?zs13) (fun _ => ?zr13)
  case zs13 => exact hS7
  clear hK K
  try (simp only [Act.put, List.getElem_toArray, List.getElem_cons_succ, List.getElem_cons_zero, List.setIfInBounds_toArray, List.set_cons_zero, List.set_cons_succ])
  refine wpAnyZ_ready (rs := [14]) (by kernel_rfl) (by simp) ?_
  refine AllReadyZ.cons (i := 14) rfl (by kernel_rfl) ?zx14 AllReadyZ.nil
  intro K hK
  simp only [List.getElem_toArray, List.getElem_cons_succ, List.getElem_cons_zero]
  have hbm := Hb.out
  refine wp_append_rd0 (.tmp 9) (.tmp 17) 28 rfl (R + 1) 57 i0 _ 4 40 Try.underlying28 hi0 hz0 hz1 hz2 rfl (by decide) _ code.length _ rfl own7 A7 m c7 (icells (mvL code.length l)) rfl hr7 (icells_one _) (by unfold maxLen; omega) (by omega) (by have := g7.size; omega) ?_
  intro v' w9 own9 hgr9 hob9
  obtain ⟨A9, c9, hv9⟩ := own_form own9
  subst hv9
  have hx : ∀ (A : Option Addr) (n c : Nat), (Value.slice A n c).ownBlock = blk A := fun A n c => by cases A <;> rfl
  have hgr9 : w7.grownBy w9 (Value.slice A code.length c).ownBlock := hgr9
  have hob9 : (Value.slice A9 (code.length + m) c9).ownBlock = (Value.slice A code.length c).ownBlock ∨ (Value.slice A9 (code.length + m) c9).ownBlock = some w7.heap.size := hob9
  rw [hx] at hgr9
  rw [hx, hx] at hob9
  have hS9 : PtS R A code.length c w9 := hS7.kept hgr9.size (hgr9.block R hS7.2.2 (fun e => by have := (hvl R (by rw [hx]; exact e.symm)).1; omega))
  have Hg9 := Lib.hid (And.intro own9 (And.intro hgr9 hob9))
  have Hg7 := Lib.hid g7
  clear own9 hgr9 hob9 hS7 own7 hr7 g7 hbm
  refine hK.out _ _ (fun hnz => ?zs14) (fun _ => ?zr14)
  case zs14 => exact hS9
  clear hK K
  try (simp only [Act.put, List.getElem_toArray, List.getElem_cons_succ, List.getElem_cons_zero, List.setIfInBounds_toArray, List.set_cons_zero, List.set_cons_succ])
  refine wpAnyZ_ready (rs := [15]) (by kernel_rfl) (by simp) ?_
  refine AllReadyZ.cons (i := 15) rfl (by kernel_rfl) ?zx15 AllReadyZ.nil
  intro K hK
  simp only [List.getElem_toArray, List.getElem_cons_succ, List.getElem_cons_zero]
  go_simp
  refine hK.out _ _ (fun hnz => ?zs15) (fun _ => ?zr15)
  case zs15 => exact hS9
  clear hK K
  try (simp only [Act.put, List.getElem_toArray, List.getElem_cons_succ, List.getElem_cons_zero, List.setIfInBounds_toArray, List.set_cons_zero, List.set_cons_succ])
  refine wpAnyZ_ready (rs := [16]) (by kernel_rfl) (by simp) ?_
  refine AllReadyZ.cons (i := 16) rfl (by kernel_rfl) ?zx16 AllReadyZ.nil
  intro K hK
  simp only [List.getElem_toArray, List.getElem_cons_succ, List.getElem_cons_zero]
  go_simp
  refine hK.out _ _ (fun hnz => ?zs16) (fun _ => ?zr16)
  case zs16 => exact hS9
  clear hK K
  try (simp only [Act.put, List.getElem_toArray, List.getElem_cons_succ, List.getElem_cons_zero, List.setIfInBounds_toArray, List.set_cons_zero, List.set_cons_succ])
  refine wpAnyZ_ready (rs := [17]) (by kernel_rfl) (by simp) ?_
  refine AllReadyZ.cons (i := 17) rfl (by kernel_rfl) ?zx17 AllReadyZ.nil
  intro K hK
  simp only [List.getElem_toArray, List.getElem_cons_succ, List.getElem_cons_zero]
  go_simp
  refine hK.out _ _ (fun hnz => ?zs17) (fun _ => ?zr17)
  case zs17 => exact hS9
  clear hK K
  try (simp only [Act.put, List.getElem_toArray, List.getElem_cons_succ, List.getElem_cons_zero, List.setIfInBounds_toArray, List.set_cons_zero, List.set_cons_succ])
  refine wpAnyZ_ready (rs := [18]) (by kernel_rfl) (by simp) ?_
  refine AllReadyZ.cons (i := 18) rfl (by kernel_rfl) ?zx18 AllReadyZ.nil
  intro K hK
  simp only [List.getElem_toArray, List.getElem_cons_succ, List.getElem_cons_zero]
  obtain ⟨s0, s1, hzR⟩ := id hS9
  go_simp
  refine hK.out _ _ (fun hnz => ?zs18) (fun _ => ?zr18)
  case zs18 => exact absurd rfl hnz
  clear hK K
  try (simp only [Act.put, List.getElem_toArray, List.getElem_cons_succ, List.getElem_cons_zero, List.setIfInBounds_toArray, List.set_cons_zero, List.set_cons_succ])
  refine wpAnyZ_done (by kernel_rfl) ?_ _
  clear s1
  go_wp2
  go_end0
  obtain ⟨own9, hgr9, hob9⟩ := Hg9.out
  obtain ⟨f1, f2⟩ := Hh.out.laid (news := mvL code.length l) (m := m) (by rw [mvL_len, Hm.out]) own9 Hg7.out hgr9 hob9
  exact ⟨rfl, A9, f1, f2⟩

theorem icells_drop (L : List In) (m : Nat) (h : m ≤ L.length) : icells (L.drop m) = (icells L).drop (m * 4) := by
  have h1 : icells (L.take m) ++ icells (L.drop m) = icells L := by rw [← icells_append, List.take_append_drop]
  rw [← h1, List.drop_left' (by rw [icells_length, List.length_take]; congr 1; omega)]
theorem icells_take (L : List In) (m : Nat) (h : m ≤ L.length) : icells (L.take m) = (icells L).take (m * 4) := by
  have h1 : icells (L.take m) ++ icells (L.drop m) = icells L := by rw [← icells_append, List.take_append_drop]
  rw [← h1, List.take_left' (by rw [icells_length, List.length_take]; congr 1; omega)]
theorem Ri.drop {w : World} {A : Option Addr} {L : List In} (h : Ri w A L) {m c : Nat} (hm : m ≤ L.length) (hc : L.length ≤ c) : Rd w 4 (if c = m then A else A.map fun ad => ad.add (m * 4)) (L.length - m) (icells (L.drop m)) := by
  refine ⟨by rw [icells_length, List.length_drop], fun h0 => ?_⟩
  rw [if_neg (by omega)]
  obtain ⟨ad, e, hb, hc⟩ := h.2 (by omega)
  subst e
  refine ⟨ad.add (m * 4), rfl, by rw [add_blk]; exact hb, fun j u hu => ?_⟩
  rw [icells_drop L m hm, List.getElem?_drop] at hu
  rw [add_two]
  exact hc _ u hu
theorem Ri.takes {w : World} {A : Option Addr} {L : List In} (h : Ri w A L) {m : Nat} (hm : m ≤ L.length) : Rd w 4 A m (icells (L.take m)) := by
  refine ⟨by rw [icells_length, List.length_take]; congr 1; omega, fun h0 => ?_⟩
  obtain ⟨ad, e, hb, hc⟩ := h.2 (by omega)
  refine ⟨ad, e, hb, fun j u hu => ?_⟩
  rw [icells_take L m hm] at hu
  rw [List.getElem?_take] at hu
  split at hu
  · exact hc j u hu
  · cases hu
end Go.Proofs.Ytpcmdijgepbilaa
namespace Go.Proofs.Ytpcmdijgepbilaa
set_option linter.unusedVariables false
set_option linter.unusedSimpArgs false
open Go.RowKit

/-- instructions are cut off. -/
def RetT (w : World) (R : Nat) (s : ByteArray) (n d e g : Nat) (A : Option Addr) (code res : List In) (x : Ending) (w' : World) : Prop :=
  ∃ A7 c7 A', x = .returned (.slice A7 res.length c7) ∧ Ri w' A7 res ∧ RfW w' R s n d e g A' code ∧ WX R w (blk A) w' (blk A') ∧ ∀ ad, A7 = some ad → ad.block ≠ R ∧ blk A' ≠ some ad.block
theorem Sm.drop {l : List In} (h : Sm l) (m : Nat) : Sm (l.drop m) := fun v hv => h v (List.mem_of_mem_drop hv)
theorem RfC.cutd {w w7 w9 : World} {R n d e g c c9 m : Nat} {s : ByteArray} {A A9 : Option Addr} {code : List In} {o : Obj} (h : RfC w R s n d e g A code c) (hm : m ≤ code.length) (g7 : Gr w w7) (own9 : w9.ownsRow (R + 1) 57 4 (.slice A9 m c9) m (icells (code.take m))) (hgr : (w7.alloc o).grownBy w9 (some w7.heap.size)) (hob : blk A9 = some w7.heap.size ∨ blk A9 = some (w7.alloc o).heap.size) :
    RfW (w9.setCell ⟨R, 5, none⟩ (.slice A9 m c9)) R s n d e g A9 (code.take m) ∧ WX R w (blk A) (w9.setCell ⟨R, 5, none⟩ (.slice A9 m c9)) (blk A9) := by
  have hlt := h.lt
  have hz7 := g7.size
  have g9 : Gr w w9 := Below.grown (g7.alloc o) hgr (by have := (g7.alloc o).size; exact this) (fun j hj => by injection hj with hj; omega)
  have hR9 : w9.heap[R]? = w.heap[R]? := Below.block g9 R hlt
  have hx : ∀ i, w9.cell? ⟨R, i, none⟩ = w.cell? ⟨R, i, none⟩ := fun i => World.cell?_of_block (a := ⟨R, i, none⟩) hR9
  have hy : ∀ i, w9.frozen? ⟨R, i, none⟩ = w.frozen? ⟨R, i, none⟩ := fun i => World.frozen?_of_block (a := ⟨R, i, none⟩) hR9
  have hz9 : R < w9.heap.size := Nat.lt_of_lt_of_le hlt g9.size
  have hlen : (code.take m).length = m := by rw [List.length_take]; omega
  have o : ∀ j, j ≠ 5 → (w9.setCell ⟨R, 5, none⟩ (.slice A9 m c9)).cell? ⟨R, j, none⟩ = w9.cell? ⟨R, j, none⟩ := fun j hj => World.cell?_setCell_other w9 ⟨R, 5, none⟩ ⟨R, j, none⟩ _ (by first | (simp; done) | (simp; omega))
  have k5 := (hx 5).trans h.c5
  have k6 := (hy 5).trans h.f5
  refine ⟨⟨c9, (o 0 (by decide)).trans ((hx 0).trans h.c0), (o 1 (by decide)).trans ((hx 1).trans h.c1), (o 2 (by decide)).trans ((hx 2).trans h.c2), (o 3 (by decide)).trans ((hx 3).trans h.c3), (o 4 (by decide)).trans ((hx 4).trans h.c4), ?_, by rw [World.frozen?_setCell]; exact (hy 1).trans h.f1, by rw [World.frozen?_setCell]; exact (hy 2).trans h.f2, by rw [World.frozen?_setCell]; exact (hy 3).trans h.f3, by rw [World.frozen?_setCell]; exact (hy 4).trans h.f4, by rw [World.frozen?_setCell]; exact (hy 5).trans h.f5, ?_, by simpa using hz9⟩, ?_⟩
  · rw [hlen]
    clear hx hy o hgr hob own9 hR9
    go_simp
  · rw [hlen]
    exact own_set own9 (p := ⟨R, 5, none⟩) (Nat.lt_succ_self _) _
  · have x1 : WX R w (blk A) w9 (blk A9) := ⟨g9.os, g9.tape, g9.output, g9.size, fun k hk _ _ => Below.block g9 k hk, fun k hk => by
      rcases hob with e | e <;> (rw [e] at hk; injection hk with hk; right; first | omega | (simp at hk; omega))⟩
    exact x1.set (p := ⟨R, 5, none⟩) (.inl rfl) _
theorem Ri.cutd {w7 w9 : World} {R : Nat} {A7 A9 : Option Addr} {l : List In} {o : Obj} {u : Value} (h : Ri w7 A7 l) (hR : R < w7.heap.size) (hn : ∀ ad, A7 = some ad → ad.block ≠ R ∧ ad.block < w7.heap.size) (hgr : (w7.alloc o).grownBy w9 (some w7.heap.size)) (hob : blk A9 = some w7.heap.size ∨ blk A9 = some (w7.alloc o).heap.size) :
    Ri (w9.setCell ⟨R, 5, none⟩ u) A7 l ∧ ∀ ad, A7 = some ad → ad.block ≠ R ∧ blk A9 ≠ some ad.block := by
  have g9 : Gr w7 w9 := Below.grown ((Gr.refl w7).alloc o) hgr (by have := ((Gr.refl w7).alloc o).size; exact this) (fun j hj => by injection hj with hj; omega)
  refine ⟨⟨h.1, fun h0 => ?_⟩, fun ad ha => ⟨(hn ad ha).1, fun e => ?_⟩⟩
  · obtain ⟨ad, e, hb, hc⟩ := h.2 h0
    refine ⟨ad, e, by simpa using Nat.lt_of_lt_of_le hb g9.size, fun j v hv => ?_⟩
    have h1 := hc j v hv
    have hne := (hn ad e).1
    rw [World.cell?_setCell_other w9 ⟨R, 5, none⟩ (ad.add j) _ (fun e2 => hne (by rw [← add_blk ad j, ← e2]))]
    exact (Below.cell g9 (by rw [add_blk]; exact hb)).trans h1
  · have := (hn ad ha).2
    rcases hob with e2 | e2 <;> (rw [e2] at e; injection e with e; first | omega | (simp at e; omega))
set_option maxRecDepth 100000 in
set_option maxHeartbeats 3200000 in
theorem rcut_any {w : World} {R n d e g : Nat} {s : ByteArray} {A : Option Addr} {code : List In} (h : RfW w R s n d e g A code) (m : Nat) (hm0 : 0 < code.length) (hm : m ≤ code.length) (hs : Sm code) (hb : code.length ≤ 4000) :
    Calls Try.prog 25 #[.pointer (some ⟨R, 0, none⟩), .int .i64 m] w (RetT w R s n d e g A (code.take m) (mvL (-(m : Int)) (code.drop m))) := by
  obtain ⟨i0, hi0, hz0, hz1, hz2⟩ := info_parts info_rinst
  obtain ⟨c, h⟩ := h
  have own0 := h.own
  obtain ⟨q, rfl⟩ : ∃ q, A = some ⟨q, 0, none⟩ := by
    obtain ⟨_, ⟨_, h0⟩ | ⟨q, cap, cur, hv, _⟩⟩ := own0
    · omega
    · injection hv with hv1
      exact ⟨q, hv1⟩
  have hlc : code.length ≤ c := by
    obtain ⟨_, ⟨_, h0⟩ | ⟨q', cap, cur, hv, _, _, h2, _⟩⟩ := own0
    · omega
    · injection hv with _ _ hv3
      omega
  have hcm : c ≤ 9223372036854775807 := by
    obtain ⟨_, ⟨_, h0⟩ | ⟨q', cap, cur, hv, _, _, _, h3, _⟩⟩ := own0
    · omega
    · injection hv with _ _ hv3
      unfold maxLen at h3
      omega
  have hri : Ri w (some ⟨q, 0, none⟩) code := Rd.own own0
  have hd := hri.drop (c := c) hm hlc
  have ht := hri.takes hm
  obtain ⟨L, hL⟩ : ∃ L, L = code.length := ⟨_, rfl⟩
  have c5 := h.c5
  have f5 := h.f5
  have hlt := h.lt
  have hvl := own0.lt q rfl
  have Hh := Lib.hid h
  have hdl : (code.drop m).length = L - m := by rw [List.length_drop, ← hL]
  rw [← hL] at hm0 hm hb hlc c5 hd
  have HL := Lib.hid (And.intro hL (And.intro hdl hs))
  have Hd := Lib.hid (And.intro hd (And.intro ht hri))
  have hLi : (L : Int) ≤ 4000 := by omega
  have hmi : (m : Int) ≤ L := by omega
  have hlci : (L : Int) ≤ c := by omega
  clear h own0 hri hd ht hL hdl hs
  go_enter Try.func25, Try.ntmps25
  go_upto_region 1 with (fail)
  by_cases hcm2 : c = m
  · have hmL : m = L := by omega
    subst hmL
    subst hcm2
    have HC : ∀ W, Gr w W → Calls Try.prog 31 #[.slice (some ⟨q, 0, none⟩) 0 0, .int .i64 (-(c : Int))] W (RetM W (mvL (-(c : Int)) (code.drop c))) := fun W gW => by
      have hnil : code.drop c = [] := List.drop_eq_nil_of_le (by rw [← HL.out.1]; exact Nat.le_refl _)
      rw [hnil]
      exact moved_any W (some ⟨q, 0, none⟩) 0 [] ⟨rfl, fun h => absurd h (by simp)⟩ (by simp) (fun v hv => by cases hv) _ (by omega) (by omega)
    have HC2 := Lib.hid HC
    clear HC
    go_upto_region 2 with (go_at_call 31; refine (HC2.out _ (Gr.refl _)).mono ?_; rintro x w7 ⟨A7, c7, rfl, hr7, hg7, hn7⟩)
    have own7 : (w7.alloc (.cells #[] 57)).ownsRow (R + 1) 57 4 (.slice (some ⟨w7.heap.size, 0, none⟩) 0 0) 0 [] := World.ownsRow_made w7 #[] 0 (by have := hg7.size; omega) (by decide) rfl
    have ht7 : Rd (w7.alloc (.cells #[] 57)) 4 (some ⟨q, 0, none⟩) c (icells (code.take c)) := (Hd.out.2.1.gr hg7).gr (Gr.alloc (Gr.refl _) _)
    have c57 := (hg7.cell (p := ⟨R, 5, none⟩) hlt).trans c5
    have f57 := (hg7.frozen (p := ⟨R, 5, none⟩) hlt).trans f5
    have hz7 : R < w7.heap.size := Nat.lt_of_lt_of_le hlt hg7.size
    have H7 := Lib.hid (And.intro hr7 (And.intro hg7 hn7))
    have hgz : w.heap.size ≤ w7.heap.size := hg7.size
    clear hr7 hg7 hn7 c5 f5
    go_wp2_with (at_builtin; refine wpList_append_rd rfl (.tmp 17) (.tmp 24) 28 rfl (R + 1) 57 i0 _ 4 40 Try.underlying28 hi0 hz0 hz1 hz2 rfl (by decide) _ 0 _ rfl own7 (some ⟨q, 0, none⟩) c _ (icells (code.take c)) rfl ht7 (icells_one _) (by unfold maxLen; omega) (by omega) (by simp; omega) ?_; intro v9 w9 own9 hgr9 hob9; obtain ⟨A9, c9, hv9⟩ := own_form own9; subst hv9; rw [Nat.zero_add, List.nil_append] at own9; have hR9 : w9.heap[R]? = w7.heap[R]? := (hgr9.block R (by simp; omega) (by simp [Value.ownBlock, Act.eval]; omega)).trans (Below.block (Gr.alloc (Gr.refl w7) _) R hz7); have c59 := (World.cell?_of_block (a := ⟨R, 5, none⟩) hR9).trans c57; have f59 := (World.frozen?_of_block (a := ⟨R, 5, none⟩) hR9).trans f57; have hz9 : R < w9.heap.size := Nat.lt_of_lt_of_le (by simp; omega : R < (w7.alloc (.cells #[] 57)).heap.size) hgr9.size; have H9 := Lib.hid (And.intro own9 (And.intro hgr9 (And.intro hob9 hR9))); clear own9 hgr9 hob9 hR9 c57 f57)
    go_ret
    obtain ⟨own9, hgr9, hob9, -⟩ := H9.out
    obtain ⟨hr7, hg7, hn7⟩ := H7.out
    have hx : ∀ (A : Option Addr) (n c : Nat), (Value.slice A n c).ownBlock = blk A := fun A n c => by cases A <;> rfl
    have hgr : (w7.alloc (.cells #[] 57)).grownBy w9 (some w7.heap.size) := hgr9
    have hob : blk A9 = some w7.heap.size ∨ blk A9 = some (w7.alloc (.cells #[] 57)).heap.size := by rw [← hx A9 (0 + c) c9]; exact hob9
    obtain ⟨f1, f2⟩ := Hh.out.cutd (m := c) (by rw [← HL.out.1]; omega) hg7 own9 hgr hob
    obtain ⟨f3, f4⟩ := hr7.cutd (u := .slice A9 c c9) hz7 (fun ad ha => by have := hn7 ad ha; exact ⟨by omega, this.2⟩) hgr hob
    exact ⟨A7, c7, A9, rfl, f3, f1, f2, f4⟩
  · have HC : ∀ W, Gr w W → Calls Try.prog 31 #[.slice (some ⟨q, m * 4, none⟩) (L - m) (c - m), .int .i64 (-(m : Int))] W (RetM W (mvL (-(m : Int)) (code.drop m))) := fun W gW => by
      have h1 := Hd.out.1
      rw [if_neg hcm2] at h1
      have e1 : (some (⟨q, 0, none⟩ : Addr)).map (fun ad => ad.add (m * 4)) = some ⟨q, m * 4, none⟩ := by
        simp only [Option.map_some, Addr.add]
        split
        · rename_i h0; rw [h0]
        · rw [Nat.zero_add]
      rw [e1] at h1
      have h2 : Ri w (some ⟨q, m * 4, none⟩) (code.drop m) := by unfold Ri; rw [HL.out.2.1]; exact h1
      have := moved_any W (some ⟨q, m * 4, none⟩) (c - m) (code.drop m) (h2.gr gW) (by rw [HL.out.2.1]; omega) (HL.out.2.2.drop m) (-(m : Int)) (by omega) (by omega)
      rw [HL.out.2.1] at this
      exact this
    have HC2 := Lib.hid HC
    have Hcm := Lib.hid hcm2
    clear HC
    go_upto_region 2 with (go_at_call 31; refine (HC2.out _ (Gr.refl _)).mono ?_; rintro x w7 ⟨A7, c7, rfl, hr7, hg7, hn7⟩)
    clear hcm2
    have own7 : (w7.alloc (.cells #[] 57)).ownsRow (R + 1) 57 4 (.slice (some ⟨w7.heap.size, 0, none⟩) 0 0) 0 [] := World.ownsRow_made w7 #[] 0 (by have := hg7.size; omega) (by decide) rfl
    have ht7 : Rd (w7.alloc (.cells #[] 57)) 4 (some ⟨q, 0, none⟩) m (icells (code.take m)) := (Hd.out.2.1.gr hg7).gr (Gr.alloc (Gr.refl _) _)
    have c57 := (hg7.cell (p := ⟨R, 5, none⟩) hlt).trans c5
    have f57 := (hg7.frozen (p := ⟨R, 5, none⟩) hlt).trans f5
    have hz7 : R < w7.heap.size := Nat.lt_of_lt_of_le hlt hg7.size
    have H7 := Lib.hid (And.intro hr7 (And.intro hg7 hn7))
    have hgz : w.heap.size ≤ w7.heap.size := hg7.size
    clear hr7 hg7 hn7 c5 f5
    go_wp2_with (at_builtin; refine wpList_append_rd rfl (.tmp 17) (.tmp 24) 28 rfl (R + 1) 57 i0 _ 4 40 Try.underlying28 hi0 hz0 hz1 hz2 rfl (by decide) _ 0 _ rfl own7 (some ⟨q, 0, none⟩) m _ (icells (code.take m)) rfl ht7 (icells_one _) (by unfold maxLen; omega) (by omega) (by simp; omega) ?_; intro v9 w9 own9 hgr9 hob9; obtain ⟨A9, c9, hv9⟩ := own_form own9; subst hv9; rw [Nat.zero_add, List.nil_append] at own9; have hR9 : w9.heap[R]? = w7.heap[R]? := (hgr9.block R (by simp; omega) (by simp [Value.ownBlock, Act.eval]; omega)).trans (Below.block (Gr.alloc (Gr.refl w7) _) R hz7); have c59 := (World.cell?_of_block (a := ⟨R, 5, none⟩) hR9).trans c57; have f59 := (World.frozen?_of_block (a := ⟨R, 5, none⟩) hR9).trans f57; have hz9 : R < w9.heap.size := Nat.lt_of_lt_of_le (by simp; omega : R < (w7.alloc (.cells #[] 57)).heap.size) hgr9.size; have H9 := Lib.hid (And.intro own9 (And.intro hgr9 (And.intro hob9 hR9))); clear own9 hgr9 hob9 hR9 c57 f57)
    go_ret
    obtain ⟨own9, hgr9, hob9, -⟩ := H9.out
    obtain ⟨hr7, hg7, hn7⟩ := H7.out
    have hx : ∀ (A : Option Addr) (n c : Nat), (Value.slice A n c).ownBlock = blk A := fun A n c => by cases A <;> rfl
    have hgr : (w7.alloc (.cells #[] 57)).grownBy w9 (some w7.heap.size) := hgr9
    have hob : blk A9 = some w7.heap.size ∨ blk A9 = some (w7.alloc (.cells #[] 57)).heap.size := by rw [← hx A9 (0 + m) c9]; exact hob9
    obtain ⟨f1, f2⟩ := Hh.out.cutd (m := m) (by rw [← HL.out.1]; omega) hg7 own9 hgr hob
    obtain ⟨f3, f4⟩ := hr7.cutd (u := .slice A9 m c9) hz7 (fun ad ha => by have := hn7 ad ha; exact ⟨by omega, this.2⟩) hgr hob
    exact ⟨A7, c7, A9, rfl, f3, f1, f2, f4⟩
end Go.Proofs.Ytpcmdijgepbilaa
