/- A schema's words are taken: (*Rules).schema. · A line of rules is taken, where it is a schema's: (*Rules).line. -/
import Derived.Test.YtjapddfnpmlifaaGreatDoorRunRlOne
import Derived.Test.YtjapddfnpmlifaaGreatDoorRunRxText
namespace Go.Proofs.YtjapddfnpmlifaaGreatDoor
set_option linter.unusedVariables false
set_option linter.unusedSimpArgs false
open Go.RowKit

theorem comp_some (s : ByteArray) (hs : s.size ≤ 500) (he : errX s.data.toList = 0) (w : World) : Calls Tryz.prog 51 #[.string s] w fun e w' => ∃ P c, e = .returned (.tuple #[.agg #[.int .i64 (grpX s.data.toList), .slice P (codeY s.data.toList).length c], .int .i64 0]) ∧ Ri w' P (codeY s.data.toList) ∧ Gr w w' ∧ ∀ ad, P = some ad → w.heap.size ≤ ad.block := by
 refine (compile_any s hs w).mono ?_
 rintro e w' ⟨A, c, rfl, hr, hg, hf⟩
 exact ⟨A, c, by rw [he], hr, hg, fun ad h => (hf ad h).2⟩
theorem ret_some {s : ByteArray} {l : List (Nat × Nat)} (hs : (s.size : Int) ≤ 300) (he : retS s.data.toList = some l) (w : World) (hm : Ml w) : Calls Tryz.prog 26 #[.string s] w fun e w' => ∃ A c, e = .returned (.tuple #[.slice A l.length c, .int .i64 0]) ∧ Ra w' A l ∧ Gr w w' ∧ ∀ ad, A = some ad → w.heap.size ≤ ad.block := by
 refine (rules_RetentionsF s hs w hm).mono ?_
 rintro e w' ⟨A, c, rfl, hr, hg, hf⟩
 rw [he] at hr ⊢
 exact ⟨A, c, rfl, hr, hg, hf⟩
/-- what schema's region reads. -/
def ScS (R b Bp : Nat) (A : Option Addr) (L c : Nat) (x : ByteArray) (g : Int) (P : Option Addr) (n pc : Nat) (W : World) : Prop :=
 W.cell? ⟨R, 0, none⟩ = some (.slice A L c) ∧ W.frozen? ⟨R, 0, none⟩ = false ∧ W.cell? ⟨b, 1, none⟩ = some (.string x) ∧ W.cell? ⟨Bp, 0, none⟩ = some (.int .i64 g) ∧ W.cell? ⟨Bp, 1, none⟩ = some (.slice P n pc) ∧ R < W.heap.size ∧ b < W.heap.size ∧ Bp < W.heap.size
theorem ScS.kept {R b Bp L c n pc : Nat} {A P : Option Addr} {x : ByteArray} {g : Int} {W W' : World} (h : ScS R b Bp A L c x g P n pc W) (hs : W.heap.size ≤ W'.heap.size) (hR : W'.heap[R]? = W.heap[R]?) (hb : W'.heap[b]? = W.heap[b]?) (hB : W'.heap[Bp]? = W.heap[Bp]?) : ScS R b Bp A L c x g P n pc W' := by
 obtain ⟨h0, h1, h2, h3, h4, h5, h6, h7⟩ := h
 exact ⟨(World.cell?_of_block (a := ⟨R, 0, none⟩) hR).trans h0, (World.frozen?_of_block (a := ⟨R, 0, none⟩) hR).trans h1, (World.cell?_of_block (a := ⟨b, 1, none⟩) hb).trans h2, (World.cell?_of_block (a := ⟨Bp, 0, none⟩) hB).trans h3, (World.cell?_of_block (a := ⟨Bp, 1, none⟩) hB).trans h4, Nat.lt_of_lt_of_le h5 hs, Nat.lt_of_lt_of_le h6 hs, Nat.lt_of_lt_of_le h7 hs⟩
theorem ScS.gr {R b Bp L c n pc : Nat} {A P : Option Addr} {x : ByteArray} {g : Int} {W W' : World} (h : ScS R b Bp A L c x g P n pc W) (k : Gr W W') : ScS R b Bp A L c x g P n pc W' :=
 h.kept k.size (Below.block k R h.2.2.2.2.2.1) (Below.block k b h.2.2.2.2.2.2.1) (Below.block k Bp h.2.2.2.2.2.2.2)
theorem own_blk (A : Option Addr) (n c : Nat) : (Value.slice A n c).ownBlock = blk A := by cases A <;> rfl
/-- one more row has been laid. -/
theorem RsM.laid {w wr V w9 : World} {R B0 c c9 : Nat} {A A9 : Option Addr} {l : List Sc} {s : Sc} (h : RsM w R B0 wr l (.slice A l.length c)) (gV : Gr wr V) (hs : ScOk V (blk A) s) (hsA : ∀ ad, s.A = some ad → B0 ≤ ad.block) (hsP : ∀ ad, s.P = some ad → B0 ≤ ad.block)
  (own9 : w9.ownsRow B0 73 4 (.slice A9 (l.length + 1) c9) (l.length + 1) (sccells l ++ sccells [s])) (hgr : V.grownBy w9 (blk A)) (hob : blk A9 = blk A ∨ blk A9 = some V.heap.size) :
  RsM w R B0 (w9.setCell ⟨R, 0, none⟩ (.slice A9 (l.length + 1) c9)) (l ++ [s]) (.slice A9 (l ++ [s]).length c9) ∧ WX R wr (blk A) (w9.setCell ⟨R, 0, none⟩ (.slice A9 (l.length + 1) c9)) (blk A9) := by
 have hlw : R < wr.heap.size := Nat.lt_of_lt_of_le h.lt h.sz
 have hrow : ∀ k, blk A = some k → R < k ∧ k < wr.heap.size := fun k hk => by
  have := h.own.lt k (by rw [own_blk]; exact hk); have := h.lt; omega
 have neR : ∀ {ad : Addr}, B0 ≤ ad.block → ad.block ≠ R := fun k e => by have := h.lt; omega
 have hRA : some R ≠ blk A := fun e => by have := (hrow R e.symm).1; omega
 have hR9 : w9.heap[R]? = wr.heap[R]? := (hgr.block R (Nat.lt_of_lt_of_le hlw gV.size) hRA).trans (Below.block gV R hlw)
 have hz9 : B0 ≤ w9.heap.size := Nat.le_trans (Nat.le_trans h.sz gV.size) hgr.size
 have hlen : (l ++ [s]).length = l.length + 1 := by simp
 have hgw : Gr w w9 := Gr.grown (h.gr.trans gV) hgr (fun k hk => by have := (hrow k hk).1; have := h.ge; omega)
 refine ⟨⟨hgw.setCell (by show w.heap.size ≤ R; exact h.ge) _, h.ge, h.lt, by simpa using hz9, ?_, ?_, by rw [World.frozen?_setCell]; exact (World.frozen?_of_block (a := ⟨R, 0, none⟩) hR9).trans h.f0, by rw [World.frozen?_setCell]; exact (World.frozen?_of_block (a := ⟨R, 1, none⟩) hR9).trans h.f1, ?_, fun z hz => ?_⟩, ?_⟩
 ·
  rw [hlen]
  exact World.cell?_setCell_same' _ _ _ (by rw [(World.cell?_of_block (a := ⟨R, 0, none⟩) hR9).trans h.c0]; rfl)
 ·
  exact (World.cell?_setCell_other w9 ⟨R, 0, none⟩ ⟨R, 1, none⟩ _ (by first | (simp; done) | (simp; omega))).trans ((World.cell?_of_block (a := ⟨R, 1, none⟩) hR9).trans h.c1)
 ·
  rw [hlen, sccells_append]
  exact own_setX own9 (p := ⟨R, 0, none⟩) h.lt _
 ·
  rw [own_blk]
  rcases List.mem_append.1 hz with hz | hz
  ·
   obtain ⟨k0, k1, k2⟩ := h.ok z hz
   rw [own_blk] at k0
   exact ⟨((k0.gr gV).grown hgr hob).set (fun ad e => neR (k1 ad e)) (fun ad e => neR (k2 ad e)), k1, k2⟩
  ·
   rw [List.mem_singleton] at hz
   subst hz
   exact ⟨(hs.grown hgr hob).set (fun ad e => neR (hsA ad e)) (fun ad e => neR (hsP ad e)), hsA, hsP⟩
 ·
  have x1 : WX R wr (blk A) V (blk A) := WX.gr _ gV
  exact (x1.trans (WX.grown (B := R) hgr hob)).set (p := ⟨R, 0, none⟩) (.inl rfl) _
/-- schema has laid a row. -/
def RetScL (w : World) (R B0 : Nat) (wr : World) (l : List Sc) (A : Option Addr) (x : ByteArray) (ar : List (Nat × Nat)) (e : Ending) (w' : World) : Prop :=
 e = .returned (.int .i64 0) ∧ ∃ A' c' s, s.pat = x ∧ s.ar = ar ∧ RsM w R B0 w' (l ++ [s]) (.slice A' (l ++ [s]).length c') ∧ WX R wr (blk A) w' (blk A')
set_option maxRecDepth 100000 in
set_option maxHeartbeats 3200000 in
theorem schema_any {w wr : World} {R B0 b c : Nat} {A : Option Addr} {l : List Sc} (h : RsM w R B0 wr l (.slice A l.length c)) (cw : Nat) (x y : ByteArray) (ar : List (Nat × Nat)) (hb : b < wr.heap.size) (hbR : b ≠ R) (hbA : some b ≠ blk A)
  (cx : wr.cell? ⟨b, 1, none⟩ = some (.string x)) (cy : wr.cell? ⟨b, 2, none⟩ = some (.string y)) (hx : x.size ≤ 500) (hy : (y.size : Int) ≤ 300) (hex : errX x.data.toList = 0) (hret : retS y.data.toList = some ar) (hl : l.length ≤ 1000) (hm : Ml wr) :
  Calls Tryz.prog 35 #[.pointer (some ⟨R, 0, none⟩), .slice (some ⟨b, 1, none⟩) 2 cw] wr (RetScL w R B0 wr l A x ar) := by
 obtain ⟨i0, hi0, hz0, hz1, hz2⟩ := info_parts info_schema
 have HCP := Lib.hid (fun w => comp_some x hx hex w)
 have HRT := Lib.hid (fun w hm => ret_some hy hret w hm)
 have HM := Lib.hid hm
 have Hh := Lib.hid h
 obtain ⟨g, hg⟩ : ∃ g : Int, g = grpX x.data.toList := ⟨_, rfl⟩
 obtain ⟨n, hn⟩ : ∃ n, n = (codeY x.data.toList).length := ⟨_, rfl⟩
 obtain ⟨m, hmm⟩ : ∃ m, m = ar.length := ⟨_, rfl⟩
 rw [← hg, ← hn] at HCP
 rw [← hmm] at HRT
 have HG := Lib.hid (And.intro hg (And.intro hn hmm))
 have hc0 := h.c0
 have hf0 := h.f0
 have hRl : R < wr.heap.size := Nat.lt_of_lt_of_le h.lt h.sz
 have hRB := h.lt
 have hBz := h.sz
 have HbA := Lib.hid (And.intro hbR hbA)
 clear h hx hy hex hret hm hg hn hmm hbA hbR
 go_enter Tryz.func35, Tryz.ntmps35
 go_upto_region 2 with (go_at_call 51; refine (HCP.out _).mono ?_; rintro e w1 ⟨P, pc, rfl, hri, g1, hf1⟩)
 have g1b : Gr wr (w1.alloc (.cells #[.int .i64 g, .slice P n pc] 71)) := g1.alloc _
 have cy1 := (Below.cell g1b (p := ⟨b, 2, none⟩) hb).trans cy
 have hz1w := g1.size
 have q0 : (w1.alloc (.cells #[.int .i64 g, .slice P n pc] 71)).cell? ⟨w1.heap.size, 0, none⟩ = some (.int .i64 g) := by go_simp
 have q1 : (w1.alloc (.cells #[.int .i64 g, .slice P n pc] 71)).cell? ⟨w1.heap.size, 1, none⟩ = some (.slice P n pc) := by go_simp
 have hqz : w1.heap.size < (w1.alloc (.cells #[.int .i64 g, .slice P n pc] 71)).heap.size := by simp
 obtain ⟨Bp, hBp⟩ : ∃ Bp, Bp = w1.heap.size := ⟨_, rfl⟩
 have hBpw : wr.heap.size ≤ Bp := by omega
 rw [← hBp] at q0 q1 hqz ⊢
 have hri' := Rd.gr hri (Gr.alloc (Gr.refl w1) (.cells #[.int .i64 g, .slice P n pc] 71))
 generalize w1.alloc (.cells #[.int .i64 g, .slice P n pc] 71) = w2 at g1b cy1 q0 q1 hqz hri' ⊢
 have HRI := Lib.hid (And.intro hri' hf1)
 have Hg1 := Lib.hid g1
 clear hri g1 hBp hz1w hri' hf1
 have HRT2 := Lib.hid (HRT.out w2 (HM.out.gr g1b))
 go_upto_region 5 with (go_at_call 26; refine HRT2.out.mono ?_; rintro e w3 ⟨Ar, ca, rfl, hra, g3, hf3⟩)
 have g13 := g1b.trans g3
 have hS0 : ScS R b Bp A l.length c x g P n pc w3.drew := ⟨(Below.cell g13 (p := ⟨R, 0, none⟩) hRl).trans hc0, (Below.frozen g13 (p := ⟨R, 0, none⟩) hRl).trans hf0, (Below.cell g13 (p := ⟨b, 1, none⟩) hb).trans cx, (Below.cell g3 (p := ⟨Bp, 0, none⟩) hqz).trans q0, (Below.cell g3 (p := ⟨Bp, 1, none⟩) hqz).trans q1, Nat.lt_of_lt_of_le hRl g13.size, Nat.lt_of_lt_of_le hb g13.size, Nat.lt_of_lt_of_le hqz g3.size⟩
 obtain ⟨V, hV⟩ : ∃ V, V = w3.drew := ⟨_, rfl⟩
 have gV : Gr wr V := by rw [hV]; exact g13.drew
 have ownV := own_grU Hh.out.own gV
 have hvl := Hh.out.own.lt
 have hok : Hid (ScOk V (blk A) ⟨x, ar, Ar, ca, P, pc⟩ ∧ (∀ ad, Ar = some ad → B0 ≤ ad.block) ∧ ∀ ad, P = some ad → B0 ≤ ad.block) := Lib.hid (by
  have k1 : ∀ ad : Addr, wr.heap.size ≤ ad.block → some ad.block ≠ blk A ∧ B0 ≤ ad.block := fun ad h => ⟨fun e => by
   have := (hvl ad.block (by rw [own_blk]; exact e.symm)).2; omega, by omega⟩
  have hraV : Ra V Ar ar := by rw [hV]; exact hra.gr (Gr.drew (Gr.refl w3))
  have hriV : Ri V P (codeY x.data.toList) := Rd.gr HRI.out.1 (by rw [hV]; exact g3.drew)
  have hw2 : wr.heap.size ≤ w2.heap.size := g1b.size
  have hw1 : wr.heap.size ≤ w1.heap.size := Hg1.out.size
  refine ⟨⟨hraV, hriV, fun h0 ad e => ?_, fun h0 ad e => ?_⟩, fun ad e => (k1 ad (Nat.le_trans hw2 (hf3 ad e))).2, fun ad e => (k1 ad (HRI.out.2 ad e)).2⟩
  ·
   obtain ⟨b', e', hb', -⟩ := hraV h0
   have e' : Ar = some ⟨b', 0, none⟩ := e'
   have e : Ar = some ad := e
   rw [e] at e'
   injection e' with e'
   subst e'
   exact ⟨hb', (k1 _ (Nat.le_trans hw2 (hf3 _ e))).1⟩
  ·
   obtain ⟨ad', e', hb', -⟩ := hriV.2 h0
   have e' : P = some ad' := e'
   have e : P = some ad := e
   rw [e] at e'
   injection e' with e'
   subst e'
   exact ⟨hb', (k1 _ (HRI.out.2 _ e)).1⟩)
 rw [← hV] at hS0
 have HV := Lib.hid hV
 have G3 := Lib.hid g3
 clear hra hf3 g13 hc0 hf0 cx cy cy1 q0 q1 hqz g1b
 refine wp_region_Z 18 (ScS R b Bp A l.length c x g P n pc) (by kernel_rfl) ?_
 rw [← HV.out]
 clear hV
 refine wpAnyZ_take (i := 0) (v := ?v8) rfl (by kernel_rfl) (fun _ _ _ h => h) (by rfl) (fun W hS => ?h8) hS0 ?r8
 case h8 => go_simp; rfl
 simp only [Act.put, List.getElem_toArray, List.getElem_cons_succ, List.getElem_cons_zero, List.setIfInBounds_toArray, List.set_cons_zero, List.set_cons_succ]
 refine wpAnyZ_take (i := 1) (v := ?v9) rfl (by kernel_rfl) (fun _ _ _ h => h) (by rfl) (fun W hS => ?h9) hS0 ?r9
 case h9 => go_simp; rfl
 simp only [Act.put, List.getElem_toArray, List.getElem_cons_succ, List.getElem_cons_zero, List.setIfInBounds_toArray, List.set_cons_zero, List.set_cons_succ]
 refine wpAnyZ_take (i := 2) (v := ?v10) rfl (by kernel_rfl) (fun _ _ _ h => h) (by rfl) (fun W hS => ?h10) hS0 ?r10
 case h10 => go_simp; rfl
 simp only [Act.put, List.getElem_toArray, List.getElem_cons_succ, List.getElem_cons_zero, List.setIfInBounds_toArray, List.set_cons_zero, List.set_cons_succ]
 refine wpAnyZ_take (i := 3) (v := ?v11) rfl (by kernel_rfl) (fun _ _ _ h => h) (by rfl) (fun W hS => ?h11) hS0 ?r11
 case h11 => go_simp; rfl
 simp only [Act.put, List.getElem_toArray, List.getElem_cons_succ, List.getElem_cons_zero, List.setIfInBounds_toArray, List.set_cons_zero, List.set_cons_succ]
 refine wpAnyZ_take (i := 4) (v := ?v12) rfl (by kernel_rfl) (fun _ _ _ h => h) (by rfl) (fun W hS => ?h12) hS0 ?r12
 case h12 => go_simp; rfl
 simp only [Act.put, List.getElem_toArray, List.getElem_cons_succ, List.getElem_cons_zero, List.setIfInBounds_toArray, List.set_cons_zero, List.set_cons_succ]
 refine wpAnyZ_take (i := 5) (v := ?v13) rfl (by kernel_rfl) (fun _ _ _ h => h) (by rfl) (fun W hS => ?h13) hS0 ?r13
 case h13 => obtain ⟨s0, -⟩ := hS; go_simp; rfl
 simp only [Act.put, List.getElem_toArray, List.getElem_cons_succ, List.getElem_cons_zero, List.setIfInBounds_toArray, List.set_cons_zero, List.set_cons_succ]
 refine wpAnyZ_take (i := 6) (v := ?v14) rfl (by kernel_rfl) (fun _ _ _ h => h) (by rfl) (fun W hS => ?h14) hS0 ?r14
 case h14 => go_simp; rfl
 simp only [Act.put, List.getElem_toArray, List.getElem_cons_succ, List.getElem_cons_zero, List.setIfInBounds_toArray, List.set_cons_zero, List.set_cons_succ]
 refine wpAnyZ_take (i := 7) (v := ?v15) rfl (by kernel_rfl) (fun _ _ _ h => h) (by rfl) (fun W hS => ?h15) hS0 ?r15
 case h15 => go_simp; rfl
 simp only [Act.put, List.getElem_toArray, List.getElem_cons_succ, List.getElem_cons_zero, List.setIfInBounds_toArray, List.set_cons_zero, List.set_cons_succ]
 refine wpAnyZ_take (i := 8) (v := ?v16) rfl (by kernel_rfl) (fun _ _ _ h => h) (by rfl) (fun W hS => ?h16) hS0 ?r16
 case h16 => obtain ⟨-, -, t0, -⟩ := hS; go_simp; rfl
 simp only [Act.put, List.getElem_toArray, List.getElem_cons_succ, List.getElem_cons_zero, List.setIfInBounds_toArray, List.set_cons_zero, List.set_cons_succ]
 refine wpAnyZ_take (i := 9) (v := ?v17) rfl (by kernel_rfl) (fun _ _ _ h => h) (by rfl) (fun W hS => ?h17) hS0 ?r17
 case h17 => go_simp; rfl
 simp only [Act.put, List.getElem_toArray, List.getElem_cons_succ, List.getElem_cons_zero, List.setIfInBounds_toArray, List.set_cons_zero, List.set_cons_succ]
 refine wpAnyZ_take (i := 10) (v := ?v18) rfl (by kernel_rfl) (fun _ _ _ h => h) (by rfl) (fun W hS => ?h18) hS0 ?r18
 case h18 => go_simp; rfl
 simp only [Act.put, List.getElem_toArray, List.getElem_cons_succ, List.getElem_cons_zero, List.setIfInBounds_toArray, List.set_cons_zero, List.set_cons_succ]
 refine wpAnyZ_take (i := 11) (v := ?v19) rfl (by kernel_rfl) (fun _ _ _ h => h) (by rfl) (fun W hS => ?h19) hS0 ?r19
 case h19 => obtain ⟨-, -, -, t1, t2, -⟩ := hS; go_simp; rfl
 simp only [Act.put, List.getElem_toArray, List.getElem_cons_succ, List.getElem_cons_zero, List.setIfInBounds_toArray, List.set_cons_zero, List.set_cons_succ]
 refine wpAnyZ_take (i := 12) (v := ?v20) rfl (by kernel_rfl) (fun _ _ _ h => h) (by rfl) (fun W hS => ?h20) hS0 ?r20
 case h20 => go_simp; rfl
 simp only [Act.put, List.getElem_toArray, List.getElem_cons_succ, List.getElem_cons_zero, List.setIfInBounds_toArray, List.set_cons_zero, List.set_cons_succ]
 refine wpAnyZ_ready (rs := [13]) (by kernel_rfl) (by simp) ?_
 refine AllReadyZ.cons (i := 13) rfl (by kernel_rfl) ?zx13 AllReadyZ.nil
 intro K hK
 simp only [List.getElem_toArray, List.getElem_cons_succ, List.getElem_cons_zero]
 have hS7 := hS0.gr (Gr.alloc (Gr.refl _) (.cells #[.string x, .slice Ar m ca, .int .i64 g, .slice P n pc] 73))
 have own7 := ownV.alloc (.cells #[.string x, .slice Ar m ca, .int .i64 g, .slice P n pc] 73)
 have hrx : Rd (V.alloc (.cells #[.string x, .slice Ar m ca, .int .i64 g, .slice P n pc] 73)) 4 (some ⟨V.heap.size, 0, none⟩) 1 ([.string x, .slice Ar m ca, .int .i64 g, .slice P n pc] : List Value) := Rd.newU (W := V) rfl 73 ([.string x, .slice Ar m ca, .int .i64 g, .slice P n pc] : List Value) rfl
 clear ownV
 go_simp
 refine hK.out _ _ (fun hnz => ?zs13) (fun _ => ?zr13)
 case zs13 => exact hS7
 clear hK K
 try (simp only [Pu, List.getElem_toArray, List.getElem_cons_succ, List.getElem_cons_zero])
 refine wpAnyZ_ready (rs := [14]) (by kernel_rfl) (by simp) ?_
 refine AllReadyZ.cons (i := 14) rfl (by kernel_rfl) ?zx14 AllReadyZ.nil
 intro K hK
 simp only [List.getElem_toArray, List.getElem_cons_succ, List.getElem_cons_zero]
 refine wp_append_rdX (.tmp 34) (.tmp 42) 55 rfl B0 73 i0 _ 4 72 Tryz.underlying55 hi0 hz0 hz1 hz2 rfl (by decide) _ l.length _ rfl own7 ⟨V.heap.size, 0, none⟩ 1 _ ([.string x, .slice Ar m ca, .int .i64 g, .slice P n pc] : List Value) rfl hrx (by decide) (by simp [Value.oneCell']) (by unfold maxLen; omega) (by omega) (by have := gV.size; simp; omega) ?_
 intro v' w9 own9 hgr9 hob9
 obtain ⟨A9, c9, hv9⟩ := own_form own9
 subst hv9
 have hgr9 : (V.alloc (.cells #[.string x, .slice Ar m ca, .int .i64 g, .slice P n pc] 73)).grownBy w9 (Value.slice A l.length c).ownBlock := hgr9
 have hob9 : (Value.slice A9 (l.length + 1) c9).ownBlock = (Value.slice A l.length c).ownBlock ∨ (Value.slice A9 (l.length + 1) c9).ownBlock = some (V.alloc (.cells #[.string x, .slice Ar m ca, .int .i64 g, .slice P n pc] 73)).heap.size := hob9
 rw [own_blk] at hgr9
 rw [own_blk, own_blk] at hob9
 have hS9 : ScS R b Bp A l.length c x g P n pc w9 := hS7.kept hgr9.size (hgr9.block R hS7.2.2.2.2.2.1 (fun e => by have := (hvl R (by rw [own_blk]; exact e.symm)).1; omega)) (hgr9.block b hS7.2.2.2.2.2.2.1 HbA.out.2) (hgr9.block Bp hS7.2.2.2.2.2.2.2 (fun e => by have := (hvl Bp (by rw [own_blk]; exact e.symm)).2; omega))
 have Hg9 := Lib.hid (And.intro own9 (And.intro hgr9 hob9))
 clear own9 hgr9 hob9 hS7 own7 hrx
 refine hK.out _ _ (fun hnz => ?zs14) (fun _ => ?zr14)
 case zs14 => exact hS9
 clear hK K
 try (simp only [Pu, List.getElem_toArray, List.getElem_cons_succ, List.getElem_cons_zero])
 refine wpAnyZ_ready (rs := [15]) (by kernel_rfl) (by simp) ?_
 refine AllReadyZ.cons (i := 15) rfl (by kernel_rfl) ?zx15 AllReadyZ.nil
 intro K hK
 simp only [List.getElem_toArray, List.getElem_cons_succ, List.getElem_cons_zero]
 go_simp
 refine hK.out _ _ (fun hnz => ?zs15) (fun _ => ?zr15)
 case zs15 => exact hS9
 clear hK K
 try (simp only [Pu, List.getElem_toArray, List.getElem_cons_succ, List.getElem_cons_zero])
 refine wpAnyZ_ready (rs := [16]) (by kernel_rfl) (by simp) ?_
 refine AllReadyZ.cons (i := 16) rfl (by kernel_rfl) ?zx16 AllReadyZ.nil
 intro K hK
 simp only [List.getElem_toArray, List.getElem_cons_succ, List.getElem_cons_zero]
 go_simp
 refine hK.out _ _ (fun hnz => ?zs16) (fun _ => ?zr16)
 case zs16 => exact hS9
 clear hK K
 try (simp only [Pu, List.getElem_toArray, List.getElem_cons_succ, List.getElem_cons_zero])
 refine wpAnyZ_ready (rs := [17]) (by kernel_rfl) (by simp) ?_
 refine AllReadyZ.cons (i := 17) rfl (by kernel_rfl) ?zx17 AllReadyZ.nil
 intro K hK
 simp only [List.getElem_toArray, List.getElem_cons_succ, List.getElem_cons_zero]
 go_simp
 refine hK.out _ _ (fun hnz => ?zs17) (fun _ => ?zr17)
 case zs17 => exact hS9
 clear hK K
 try (simp only [Pu, List.getElem_toArray, List.getElem_cons_succ, List.getElem_cons_zero])
 refine wpAnyZ_ready (rs := [18]) (by kernel_rfl) (by simp) ?_
 refine AllReadyZ.cons (i := 18) rfl (by kernel_rfl) ?zx18 AllReadyZ.nil
 intro K hK
 simp only [List.getElem_toArray, List.getElem_cons_succ, List.getElem_cons_zero]
 obtain ⟨s0, s1, -, -, -, hzR, -, -⟩ := id hS9
 go_simp
 refine hK.out _ _ (fun hnz => ?zs18) (fun _ => ?zr18)
 case zs18 => exact absurd rfl hnz
 clear hK K
 try (simp only [Pu, List.getElem_toArray, List.getElem_cons_succ, List.getElem_cons_zero])
 refine wpAnyZ_done (by kernel_rfl) ?_ _
 clear s1
 go_wp2
 go_ret
 obtain ⟨own9, hgr9, hob9⟩ := Hg9.out
 have gVV : Gr wr (V.alloc (.cells #[.string x, .slice Ar m ca, .int .i64 g, .slice P n pc] 73)) := gV.alloc _
 obtain ⟨f1, f2⟩ := Hh.out.laid (s := ⟨x, ar, Ar, ca, P, pc⟩) gVV (hok.out.1.gr (Gr.alloc (Gr.refl V) _)) hok.out.2.1 hok.out.2.2 (by simpa [sccells, Sc.code, Sc.g, ← HG.out.1, ← HG.out.2.1, ← HG.out.2.2] using own9) hgr9 hob9
 exact ⟨rfl, A9, c9, _, rfl, rfl, f1, f2⟩
end Go.Proofs.YtjapddfnpmlifaaGreatDoor
namespace Go.Proofs.YtjapddfnpmlifaaGreatDoor
set_option linter.unusedVariables false
set_option linter.unusedSimpArgs false
open Go.RowKit

set_option maxRecDepth 100000 in
set_option maxHeartbeats 3200000 in
theorem idx_no (m : List (List UInt8)) (hl : (m.length : Int) ≤ 1000) (hne : ∀ p ∈ m, p ≠ []) (b c : Nat) (w : World) (hS : Strs w b m) : Calls Tryz.prog 50 #[.slice (some ⟨b, 0, none⟩) m.length c, .string ⟨#[]⟩] w fun e w' => e = .returned (.int .i64 (-1)) ∧ w = w' := by
 have HS := Lib.hid hS
 have HN := Lib.hid hne
 obtain ⟨n, hn⟩ : ∃ n, n = m.length := ⟨_, rfl⟩
 rw [← hn] at hl ⊢
 have Hn := Lib.hid hn
 clear hS hn hne
 go_enter Tryz.func50, Tryz.ntmps50
 go_wp2
 go_loop [8] (fun i => ∃ k : Nat, k ≤ n ∧ i = .int .i64 k) (fun i => n - (intOf i).toNat)
 case atStart => exact ⟨0, Nat.zero_le _, rfl⟩
 case round =>
  obtain ⟨k, hk, rfl⟩ := hrel
  by_cases hlt : k < n
  ·
   have hlt' : (k : Int) < (n : Int) := by omega
   have hkm : k < m.length := by rw [← Hn.out]; exact hlt
   have hc := HS.out k hkm
   have he : (⟨m[k].toArray⟩ : ByteArray).toList.isEmpty = false := by
    rw [toList_data_ru, List.isEmpty_eq_false_iff]
    exact HN.out _ (List.getElem_mem hkm)
   obtain ⟨x, hx⟩ : ∃ x : ByteArray, x = ⟨m[k].toArray⟩ := ⟨_, rfl⟩
   rw [← hx] at hc he
   clear hx
   go_wp2
   go_round
   case rel => exact ⟨k + 1, by omega, by go_num⟩
   case measure => simp [intOf]; omega
  ·
   have hks : k = n := by omega
   have hge : ¬ (k : Int) < (n : Int) := by omega
   clear hks
   go_wp2
   go_ret
   exact ⟨rfl, rfl⟩
set_option maxRecDepth 100000 in
set_option maxHeartbeats 3200000 in
theorem cont_no (m : List (List UInt8)) (hl : (m.length : Int) ≤ 1000) (hne : ∀ p ∈ m, p ≠ []) (b c : Nat) (w : World) (hS : Strs w b m) : Calls Tryz.prog 34 #[.slice (some ⟨b, 0, none⟩) m.length c, .string ⟨#[]⟩] w fun e w' => e = .returned (.bool false) ∧ w = w' := by
 have HI := Lib.hid (idx_no m hl hne b c w hS)
 clear hS hne
 go_enter Tryz.func34, Tryz.ntmps34
 go_wp2_with (go_at_call 50; refine HI.out.mono ?_; rintro e w' ⟨rfl, rfl⟩)
 go_ret
 exact ⟨rfl, rfl⟩
/-- strings.Split at one byte, and how much room it has. -/
theorem split_cap (s : ByteArray) (c : UInt8) (hs : (s.size : Int) ≤ 4096) (w : World) (hm : Ml w) : Calls Tryz.prog 33 #[.string s, .string ⟨#[c]⟩] w fun e w' => ∃ b cp, e = .returned (.slice (some ⟨b, 0, none⟩) (partS c s.data.toList).length cp) ∧ (partS c s.data.toList).length ≤ cp ∧ w.heap.size ≤ b ∧ b < w'.heap.size ∧ Strs w' b (partS c s.data.toList) ∧ Gr w w' := by
 obtain ⟨m, hm⟩ := hm
 have hk : Lib.splitK [c] 0 (Lib.count s.data.toList [c]) s.data.toList = partS c s.data.toList := splitK_part c _ _ (Nat.le_refl _)
 have hd := Lib.splitB_data ⟨#[c]⟩ 0 (Lib.countB s ⟨#[c]⟩) s
 have e0 : (⟨#[c]⟩ : ByteArray).data.toList = [c] := rfl
 rw [e0] at hd
 have e1 : Lib.countB s ⟨#[c]⟩ = Lib.count s.data.toList [c] := rfl
 rw [e1, hk] at hd
 have hlen := Lib.splitB_all ⟨#[c]⟩ (Nat.le_refl 1) 0 _ s rfl
 rw [e1] at hlen
 have hl2 : (partS c s.data.toList).length = Lib.count s.data.toList [c] + 1 := by rw [← hd, List.length_map]; exact hlen
 refine (Tryz.strings_Split s ⟨#[c]⟩ m w (by omega) hm (Nat.le_refl 1)).mono ?_
 rintro e w' ⟨rfl, rfl⟩
 rw [e1, ← hl2]
 refine ⟨w.heap.size, _, rfl, Nat.le_refl _, Nat.le_refl _, by simp, ?_, Gr.alloc (Gr.refl w) _⟩
 have e3 : ((Lib.splitB ⟨#[c]⟩ 0 (Lib.count s.data.toList [c]) s).map Value.string) = scells (partS c s.data.toList) := by
  rw [← hd]
  unfold scells
  rw [List.map_map]
  rfl
 rw [e3]
 intro k hk'
 have : (scells (partS c s.data.toList))[k]? = some (.string ⟨((partS c s.data.toList)[k]).toArray⟩) := by simp [scells, List.getElem?_map, List.getElem?_eq_getElem hk']
 exact (cell_of_row _ _ _ _ _ _ (heap_alloc_new w _)).trans (by simpa using this)
def schW : List UInt8 := [115, 99, 104, 101, 109, 97]
/-- a line that says a schema that may be. -/
structure GoodL (s : List UInt8) (x y : ByteArray) (ar : List (Nat × Nat)) : Prop where
 part : partS 32 s = [schW, x.data.toList, y.data.toList]
 x0 : x.data.toList ≠ []
 y0 : y.data.toList ≠ []
 xs : x.size ≤ 500
 ys : (y.size : Int) ≤ 300
 ex : errX x.data.toList = 0
 ret : retS y.data.toList = some ar
set_option maxRecDepth 100000 in
set_option maxHeartbeats 3200000 in
theorem line_any {w wr : World} {R B0 c : Nat} {A : Option Addr} {l : List Sc} (h : RsM w R B0 wr l (.slice A l.length c)) (s x y : ByteArray) (ar : List (Nat × Nat)) (hg : GoodL s.data.toList x y ar) (hs : (s.size : Int) ≤ 4096) (hl : l.length ≤ 1000) (hm : Ml wr) :
  Calls Tryz.prog 19 #[.pointer (some ⟨R, 0, none⟩), .string s] wr (RetScL w R B0 wr l A x ar) := by
 have HSP := Lib.hid (split_cap s 32 hs wr hm)
 rw [hg.part] at HSP
 have HM := Lib.hid hm
 have Hh := Lib.hid h
 have HGd := Lib.hid hg
 have hne : ∀ p ∈ [schW, x.data.toList, y.data.toList], p ≠ [] := by
  intro p hp
  simp only [List.mem_cons, List.not_mem_nil, or_false] at hp
  rcases hp with rfl | rfl | rfl
  ·
   decide
  ·
   exact hg.x0
  ·
   exact hg.y0
 have HN := Lib.hid hne
 clear h hg hm hne
 go_enter Tryz.func19, Tryz.ntmps19
 go_upto_region 2 with (go_at_call 33; refine HSP.out.mono ?_; rintro e w1 ⟨b, cp, rfl, hcp, hb0, hb, hS, g1⟩)
 have HCT := Lib.hid (cont_no [schW, x.data.toList, y.data.toList] (by simp) HN.out b cp w1 hS)
 have c0 : w1.cell? ⟨b, 0, none⟩ = some (.string ⟨schW.toArray⟩) := hS 0 (by simp)
 have c1 : w1.cell? ⟨b, 1, none⟩ = some (.string x) := hS 1 (by simp)
 have c2 : w1.cell? ⟨b, 2, none⟩ = some (.string y) := hS 2 (by simp)
 have hcp3 : (3 : Int) ≤ (cp : Int) := by simp at hcp; omega
 have hcp4 : 3 ≤ cp := by omega
 have h1 := Hh.out.gr' g1
 have hvl := Hh.out.own.lt
 have hRl : R < wr.heap.size := Nat.lt_of_lt_of_le Hh.out.lt Hh.out.sz
 have HSC := Lib.hid (fun cw => schema_any h1 cw x y ar hb (by omega) (fun e => by have := (hvl b (by rw [own_blk]; exact e.symm)).2; omega) c1 c2 HGd.out.xs HGd.out.ys HGd.out.ex HGd.out.ret hl (HM.out.gr g1))
 have G1 := Lib.hid g1
 obtain ⟨X, hX⟩ : ∃ X : ByteArray, X = ⟨schW.toArray⟩ := ⟨_, rfl⟩
 have he : (X.toList == [115, 99, 104, 101, 109, 97]) = true := by rw [hX, toList_data_ru]; rfl
 rw [← hX] at c0
 clear hX hS c1 c2 h1 hvl g1 hcp
 simp only [List.length_cons, List.length_nil, Nat.zero_add, Nat.reduceAdd] at HCT ⊢
 go_wp2_with (first | (go_at_call 34; refine HCT.out.mono ?_; rintro e w2 ⟨rfl, rfl⟩) | (go_at_call 35; refine (HSC.out _).mono ?_; rintro e w3 ⟨rfl, A', c', s', k1, k2, k3, k4⟩; have K := Lib.hid (And.intro k1 (And.intro k2 (And.intro k3 k4))); clear k1 k2 k3 k4))
 go_ret
 obtain ⟨k1, k2, k3, k4⟩ := K.out
 exact ⟨rfl, A', c', s', k1, k2, k3, (WX.gr _ G1.out).trans k4⟩
end Go.Proofs.YtjapddfnpmlifaaGreatDoor
