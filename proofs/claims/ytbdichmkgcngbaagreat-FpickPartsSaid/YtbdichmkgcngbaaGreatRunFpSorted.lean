/- The contract of fpick's sorted: series in a function's order. · The contracts of slices.Clone at series, and of fpick's does, by kinds. -/
import Derived.Test.YtbdichmkgcngbaaGreatRunFpPred
import Derived.Test.YtbdichmkgcngbaaGreatRunFpCmp
import Derived.Test.YtbdichmkgcngbaaGreatRunRegZ
namespace Go.Proofs.YtbdichmkgcngbaaGreat
set_option linter.unusedVariables false
set_option linter.unusedSimpArgs false
open Go.RowKit

theorem info_ent : (Tryz.prog.info? 128).map (fun i => (i.zero, i.size, i.bytes)) = some (some (.agg #[.string ⟨#[]⟩, .int .i64 0, .int .i64 0, .slice none 0 0, .int .i64 0, .bool false, .int .i64 0]), 7, 80) := by kernel_rfl
/-- a series that lies in a block of its own. -/
def BAt (W : World) (B : Nat) (x : Sq) : Prop := W.cell? ⟨B, 0, none⟩ = some (.string x.s.name) ∧ W.cell? ⟨B, 1, none⟩ = some (.int .i64 x.s.start) ∧ W.cell? ⟨B, 2, none⟩ = some (.int .i64 x.s.step) ∧ W.cell? ⟨B, 3, none⟩ = some (.slice x.A x.s.vals.length x.c) ∧ W.cell? ⟨B, 4, none⟩ = some (.int .i64 x.s.cons) ∧ B < W.heap.size
theorem BAt.gr {w w' : World} {B : Nat} {x : Sq} (h : BAt w B x) (g : Gr w w') : BAt w' B x := by
 obtain ⟨b0, b1, b2, b3, b4, b5⟩ := h
 exact ⟨(g.cell (p := ⟨B, 0, none⟩) b5).trans b0, (g.cell (p := ⟨B, 1, none⟩) b5).trans b1, (g.cell (p := ⟨B, 2, none⟩) b5).trans b2, (g.cell (p := ⟨B, 3, none⟩) b5).trans b3, (g.cell (p := ⟨B, 4, none⟩) b5).trans b4, Nat.lt_of_lt_of_le b5 g.size⟩
theorem BAt.grown {w w' : World} {B : Nat} {x : Sq} {row : Option Nat} (h : BAt w B x) (g : w.grownBy w' row) (hr : some B ≠ row) : BAt w' B x := by
 obtain ⟨b0, b1, b2, b3, b4, b5⟩ := h
 exact ⟨g.cell b0 hr, g.cell b1 hr, g.cell b2 hr, g.cell b3 hr, g.cell b4 hr, Nat.lt_of_lt_of_le b5 g.size⟩
theorem FAt.grown {w w' : World} {B : Nat} {r : Fr} {row : Option Nat} (h : FAt w B r) (g : w.grownBy w' row) (hr : some B ≠ row) : FAt w' B r := by
 obtain ⟨b0, b1, b2, b3, b5⟩ := h
 exact ⟨g.cell b0 hr, g.cell b1 hr, g.cell b2 hr, g.cell b3 hr, Nat.lt_of_lt_of_le b5 g.size⟩
def SrtS (R B : Nat) (r : Fr) (x : Sq) (W : World) : Prop := FAt W R r ∧ BAt W B x
theorem SrtS.gr {R B : Nat} {r : Fr} {x : Sq} {w w' : World} (h : SrtS R B r x w) (g : Gr w w') : SrtS R B r x w' := ⟨h.1.gr g, h.2.gr g⟩
theorem SrtS.grown {R B : Nat} {r : Fr} {x : Sq} {w w' : World} {row : Option Nat} (h : SrtS R B r x w) (g : w.grownBy w' row) (hr : ∀ j, row = some j → R ≠ j ∧ B ≠ j) : SrtS R B r x w' :=
 ⟨h.1.grown g (fun e => (hr R e.symm).1 rfl), h.2.grown g (fun e => (hr B e.symm).2 rfl)⟩
/-- an entry of a slice that reads as a list. -/
theorem Rd.en {w : World} {A : Option Addr} {L : List En} (h : Rd w 7 A L.length (L.flatMap enC)) {k : Nat} (hk : k < L.length) :
  ∃ ad : Addr, A = some ad ∧ ad.block < w.heap.size ∧ ∀ e, L[k] = e → w.cell? (ad.add (k * 7)) = some (.string e.1.s.name) ∧ w.cell? ⟨(ad.add (k * 7)).block, (ad.add (k * 7)).off + 1, none⟩ = some (.int .i64 e.1.s.start) ∧ w.cell? ⟨(ad.add (k * 7)).block, (ad.add (k * 7)).off + 2, none⟩ = some (.int .i64 e.1.s.step) ∧ w.cell? ⟨(ad.add (k * 7)).block, (ad.add (k * 7)).off + 3, none⟩ = some (.slice e.1.A e.1.s.vals.length e.1.c) ∧ w.cell? ⟨(ad.add (k * 7)).block, (ad.add (k * 7)).off + 4, none⟩ = some (.int .i64 e.1.s.cons) ∧ w.cell? ⟨(ad.add (k * 7)).block, (ad.add (k * 7)).off + 5, none⟩ = some (.bool e.2.ok) ∧ w.cell? ⟨(ad.add (k * 7)).block, (ad.add (k * 7)).off + 6, none⟩ = some (.int .i64 e.2.n) := by
 obtain ⟨ad, e, hb, hc⟩ := h.2 (by omega)
 refine ⟨ad, e, hb, fun x hx => ?_⟩
 have hf := fun j (hj : j < 7) => flat_at enC 7 enC_len (by decide) L k hk j hj
 rw [hx] at hf
 exact ⟨hc _ _ (hf 0 (by decide)), (congrArg w.cell? (add_next ad (k * 7) 0)).symm.trans (hc _ _ (hf 1 (by decide))), (congrArg w.cell? (add_next ad (k * 7) 1)).symm.trans (hc _ _ (hf 2 (by decide))), (congrArg w.cell? (add_next ad (k * 7) 2)).symm.trans (hc _ _ (hf 3 (by decide))), (congrArg w.cell? (add_next ad (k * 7) 3)).symm.trans (hc _ _ (hf 4 (by decide))), (congrArg w.cell? (add_next ad (k * 7) 4)).symm.trans (hc _ _ (hf 5 (by decide))), (congrArg w.cell? (add_next ad (k * 7) 5)).symm.trans (hc _ _ (hf 6 (by decide)))⟩
def enF (r : Fr) (x : Sq) : En := (x, ofR r.by_ x.s.vals)
theorem sort_en (r : Fr) (L : List Sq) : (sortR (fun a b => ltV r.least a.2 b.2) (L.map (enF r))).map Prod.fst = sortR (fun a b => ltV r.least (ofR r.by_ a.s.vals) (ofR r.by_ b.s.vals)) L := by
 rw [← sortR_map (enF r) (fun (a b : En) => ltV r.least a.2 b.2) L, List.map_map]
 show (List.map id _) = _
 rw [List.map_id]
 rfl

set_option maxRecDepth 100000 in
set_option maxHeartbeats 6400000 in
theorem sorted_any (r : Fr) (A : Option Addr) (c : Nat) (L : List Sq) (w : World) (h20 : L.length ≤ 20) (hle : ∀ x ∈ L, x.s.vals.length ≤ 1000000) (hr : Rl w A L) (hv : Lie w L) :
  Calls Tryz.prog 59 #[aggFr r, .slice A L.length c] w (RetL (sortR (fun a b => ltV r.least (ofR r.by_ a.s.vals) (ofR r.by_ b.s.vals)) L) w) := by
 obtain ⟨i0, hi0, hz0, hz1, hz2⟩ := info_parts info_ser
 obtain ⟨j0, hj0, hy0, hy1, hy2⟩ := info_parts info_ent
 have h20' : (L.length : Int) ≤ 20 := by omega
 have HLE := Lib.hid hle
 clear hle
 unfold aggFr
 go_enter Tryz.func59, Tryz.ntmps59
 go_wp2
 go_loopw [5, 13] (fun v i wr => ∃ (k : Nat) (M : List En), k ≤ L.length ∧ i = .int .i64 k ∧ Gr w wr ∧ Gr (w.alloc (.cells #[.string r.nm, .int .i64 r.kind, .int .i64 r.by_, .bool r.least] 45)) wr ∧ FAt wr w.heap.size r ∧ wr.ownsRow (w.heap.size + 1) 128 7 v k (M.flatMap enC) ∧ M.length = k ∧ Hid (M = (L.take k).map (enF r))) (fun _ i _ => L.length - (intOf i).toNat)
 case atStart =>
  refine ⟨0, [], Nat.zero_le _, rfl, Gr.alloc (Gr.refl _) _, Gr.refl _, ?_, World.ownsRow_nil _ _ _ _, rfl, Lib.hid rfl⟩
  refine ⟨?_, ?_, ?_, ?_, ?_⟩
  all_goals first | (go_simp; done) | (simp; done)
 case round =>
  obtain ⟨k, M, hk, rfl, hgr, hgW, hFA, hown, hMl, HM⟩ := hrel
  by_cases hlt : k < L.length
  ·
   obtain ⟨x, hx⟩ : ∃ x, L[k] = x := ⟨_, rfl⟩
   obtain ⟨ad, rfl, hb, hx0, hx1, hx2, hx3, hx4⟩ := (hr.gr hgr).at hlt
   have hvx := hv _ (List.getElem_mem hlt)
   have hlx := HLE.out _ (List.getElem_mem hlt)
   rw [hx] at hx0 hx1 hx2 hx3 hx4 hvx hlx
   have HM2 : Hid (M ++ [enF r x] = (L.take (k + 1)).map (enF r)) := Lib.hid (by rw [List.take_succ_eq_append_getElem hlt, List.map_append, HM.out, hx]; rfl)
   have Q := fun w hr => rowof_any r x.s x.A x.c w hlx hr
   unfold aggFr aggSr at Q
   have hvlr := fun j hj => And.intro (hown.lt j hj).1 (hown.lt j hj).2
   clear hx HM hlx
   go_wp2
   have hS0 : SrtS w.heap.size wr.heap.size r x (wr.alloc (.cells #[.string x.s.name, .int .i64 x.s.start, .int .i64 x.s.step, .slice x.A x.s.vals.length x.c, .int .i64 x.s.cons] 30)).drew := ⟨hFA.gr (Gr.drew (Gr.alloc (Gr.refl _) _)), by
    refine ⟨?_, ?_, ?_, ?_, ?_, ?_⟩
    all_goals first | (go_simp; done) | (simp; done)⟩
   have hown0 := (hown.alloc (.cells #[.string x.s.name, .int .i64 x.s.start, .int .i64 x.s.step, .slice x.A x.s.vals.length x.c, .int .i64 x.s.cons] 30)).drew
   have gW0 : Gr (w.alloc (.cells #[.string r.nm, .int .i64 r.kind, .int .i64 r.by_, .bool r.least] 45)) (wr.alloc (.cells #[.string x.s.name, .int .i64 x.s.start, .int .i64 x.s.step, .slice x.A x.s.vals.length x.c, .int .i64 x.s.cons] 30)).drew := Gr.drew (Gr.alloc hgW _)
   have gV0 : Gr w (wr.alloc (.cells #[.string x.s.name, .int .i64 x.s.start, .int .i64 x.s.step, .slice x.A x.s.vals.length x.c, .int .i64 x.s.cons] 30)).drew := Gr.drew (Gr.alloc hgr _)
   obtain ⟨V, hV⟩ : ∃ V, V = (wr.alloc (.cells #[.string x.s.name, .int .i64 x.s.start, .int .i64 x.s.step, .slice x.A x.s.vals.length x.c, .int .i64 x.s.cons] 30)).drew := ⟨_, rfl⟩
   refine wp_region_Z 8 (SrtS w.heap.size wr.heap.size r x) (by kernel_rfl) ?_
   rw [← hV] at hS0 hown0 gV0 gW0 ⊢
   clear hV hgW hx0 hx1 hx2 hx3 hx4 hFA hown
   refine wpAnyZ_take (i := 0) (v := ?v1) rfl (by kernel_rfl) (fun _ _ _ h => h) (by rfl) (fun W hS => ?h1) hS0 ?r1
   case h1 => go_simp; rfl
   simp only [Act.put, List.setIfInBounds_toArray, List.set_cons_zero, List.set_cons_succ]
   refine wpAnyZ_take (i := 1) (v := ?v2) rfl (by kernel_rfl) (fun _ _ _ h => h) (by rfl) (fun W hS => ?h2) hS0 ?r2
   case h2 => obtain ⟨⟨r0, r1, r2, r3, r4⟩, b0, b1, b2, b3, b4, b5⟩ := hS; go_simp; rfl
   simp only [Act.put, List.setIfInBounds_toArray, List.set_cons_zero, List.set_cons_succ]
   refine wpAnyZ_take (i := 2) (v := ?v3) rfl (by kernel_rfl) (fun _ _ _ h => h) (by rfl) (fun W hS => ?h3) hS0 ?r3
   case h3 => obtain ⟨⟨r0, r1, r2, r3, r4⟩, b0, b1, b2, b3, b4, b5⟩ := hS; go_simp; rfl
   simp only [Act.put, List.setIfInBounds_toArray, List.set_cons_zero, List.set_cons_succ]
   refine wpAnyZ_take (i := 3) (v := ?v4) rfl (by kernel_rfl) (fun _ _ _ h => h) (by rfl) (fun W hS => ?h4) hS0 ?r4
   case h4 => obtain ⟨⟨r0, r1, r2, r3, r4⟩, b0, b1, b2, b3, b4, b5⟩ := hS; go_simp; rfl
   simp only [Act.put, List.setIfInBounds_toArray, List.set_cons_zero, List.set_cons_succ]
   refine wpAnyZ_ready (rs := [4]) (by kernel_rfl) (by simp) ?_
   refine AllReadyZ.cons rfl (by rfl) (fun K hK => ?_) ?_
   rotate_left
   exact AllReadyZ.nil
   go_simp
   refine (Q _ (hvx.gr gV0)).mono ?_; rintro e w5 ⟨rfl, hg5⟩
   have gV5 := Gr.trans gV0 hg5
   have gW5 := Gr.trans gW0 hg5
   have hS5 := hS0.gr hg5
   have hown5 := own_gr hown0 hg5
   go_wp2_with fail
   refine hK.out _ _ (fun hnz => ?s5) (fun _ => ?r5)
   case s5 => exact hS5
   clear hK K
   try simp only [Pu]
   refine wpAnyZ_take (i := 5) (v := ?v6) rfl (by kernel_rfl) (fun _ _ _ h => h) (by rfl) (fun W hS => ?h6) hS5 ?r6
   case h6 => go_simp; rfl
   simp only [Act.put, List.setIfInBounds_toArray, List.set_cons_zero, List.set_cons_succ]
   refine wpAnyZ_ready (rs := [6]) (by kernel_rfl) (by simp) ?_
   refine AllReadyZ.cons rfl (by rfl) (fun K hK => ?_) ?_
   rotate_left
   exact AllReadyZ.nil
   have hrx := Rd.new (W := w5) rfl 128 (n := 1) (size := 7) (enC (enF r x)) rfl
   have hS6 := hS5.gr (Gr.alloc (Gr.refl _) (.cells (enC (enF r x)).toArray 128))
   have hown6 := hown5.alloc (.cells (enC (enF r x)).toArray 128)
   have gV6 := Gr.alloc gV5 (.cells (enC (enF r x)).toArray 128)
   have z5 : w.heap.size + 1 ≤ w5.heap.size := by have := hS5.1.2.2.2.2; omega
   have hvl := hown5.lt
   have zB : wr.heap.size < w5.heap.size := hS5.2.2.2.2.2.2
   go_simp
   refine hK.out _ _ (fun hnz => ?s7) (fun _ => ?r7)
   case s7 => exact hS6
   clear hK K
   try simp only [Pu]
   refine wpAnyZ_ready (rs := [7]) (by kernel_rfl) (by simp) ?_
   refine AllReadyZ.cons rfl (by rfl) (fun K hK => ?_) ?_
   rotate_left
   exact AllReadyZ.nil
   refine wp_append_rd (.tmp 17) (.tmp 23) 126 rfl (w.heap.size + 1) 128 j0 _ 7 80 Tryz.underlying126 hj0 hy0 hy1 hy2 rfl (by decide) _ k _ rfl hown6 ⟨w5.heap.size, 0, none⟩ 1 _ (enC (enF r x)) rfl hrx (by decide) (enC_one _) (by unfold maxLen; omega) (by omega) (by simp; omega) ?_
   intro v' w9 hown9 hgr9 _
   have hg9 : Gr w w9 := Gr.grown gV6 hgr9 (fun j hj => by have := (hvl j hj).1; omega)
   have hW9 : Gr (w.alloc (.cells #[.string r.nm, .int .i64 r.kind, .int .i64 r.by_, .bool r.least] 45)) w9 := Gr.grown (Gr.alloc gW5 _) hgr9 (fun j hj => by have := (hvl j hj).1; simp; omega)
   have hS9 : SrtS w.heap.size wr.heap.size r x w9 := hS6.grown hgr9 (fun j hj => by have := (hvlr j hj); omega)
   clear hgr9 hS6 hown6 gV6 hvl hrx
   refine hK.out _ _ (fun hnz => ?s8) (fun _ => ?r8)
   case s8 => exact hS9
   clear hK K
   try simp only [Pu]
   refine wpAnyZ_ready (rs := [8]) (by kernel_rfl) (by simp) ?_
   refine AllReadyZ.cons rfl (by rfl) (fun K hK => ?_) ?_
   rotate_left
   exact AllReadyZ.nil
   go_simp
   refine hK.out _ _ (fun hnz => ?s9) (fun _ => ?r9)
   case s9 => exact hS9
   clear hK K
   try simp only [Pu]
   refine wpAnyZ_done (by kernel_rfl) ?_ _
   have hown10 : w9.ownsRow (w.heap.size + 1) 128 7 v' (k + 1) ((M ++ [enF r x]).flatMap enC) := by rw [List.flatMap_append]; simpa using hown9
   have hFA9 := hS9.1
   clear hS9 hown9 hS0 hown0 hvlr
   go_wp2
   go_roundw
   case rel => exact ⟨k + 1, M ++ [enF r x], by omega, by go_num, hg9, hW9, hFA9, hown10, by simp [hMl], HM2⟩
   case measure => simp [intOf]; omega
  ·
   have hkk : k = L.length := by omega
   subst hkk
   obtain ⟨A', c', hvv⟩ := own_form hown
   subst hvv
   have HM2 : Hid (M = L.map (enF r)) := Lib.hid (by rw [HM.out, List.take_length])
   have hsz := hgr.size
   have hown' : wr.ownsRow (w.heap.size + 1) 128 7 (.slice A' M.length c') M.length (M.flatMap enC) := by rw [hMl]; exact hown
   have QS := Lib.hid (sorte_any w.heap.size r.least (w.heap.size + 1) c' A' M (w.alloc (.cells #[.string r.nm, .int .i64 r.kind, .int .i64 r.by_, .bool r.least] 45)) wr (by go_simp) (by simp) (by omega) hown' hgW (by simp))
   have QS2 := QS.out
   rw [show M.length = L.length from hMl] at QS2
   have HE : Hid ((sortR (fun a b => ltV r.least a.2 b.2) M).map Prod.fst = sortR (fun a b => ltV r.least (ofR r.by_ a.s.vals) (ofR r.by_ b.s.vals)) L) := Lib.hid (by rw [HM2.out]; exact sort_en r L)
   obtain ⟨E, hE⟩ : ∃ E, sortR (fun a b => ltV r.least a.2 b.2) M = E := ⟨_, rfl⟩
   have hEl : E.length = L.length := by rw [← hE, sortR_len, hMl]
   rw [hE] at QS2 HE
   have QS3 := Lib.hid QS2
   clear QS QS2 hE HM HM2 hown hown' hMl hgW
   go_wp2_with fail
   refine QS3.out.mono ?_; rintro e w2 ⟨rfl, hg2, hrd⟩
   have gw2 := Gr.trans (Gr.alloc (Gr.refl w) _) hg2
   rw [show L.length = E.length from hEl.symm] at hrd
   clear QS3 hg2 hFA hgr hsz
   go_wp2
   go_loopw [8, 31] (fun v i wr => ∃ (k : Nat) (N : List Sq), k ≤ L.length ∧ i = .int .i64 k ∧ Gr w wr ∧ Gr w2 wr ∧ wr.ownsRow w2.heap.size 30 5 v k (scells N) ∧ N.length = k ∧ Hid (N = (E.take k).map Prod.fst)) (fun _ i _ => L.length - (intOf i).toNat)
   case atStart => exact ⟨0, [], Nat.zero_le _, rfl, gw2, Gr.refl _, World.ownsRow_nil _ _ _ _, rfl, Lib.hid rfl⟩
   case round =>
    obtain ⟨k, N, hk, rfl, hgr, hg2, hown, hNl, HN⟩ := hrel
    by_cases hlt : k < L.length
    ·
     have hlt' : k < E.length := by omega
     obtain ⟨ad, rfl, hb, hq⟩ := (hrd.gr hg2).en hlt'
     obtain ⟨e, he⟩ : ∃ e, E[k] = e := ⟨_, rfl⟩
     obtain ⟨hx0, hx1, hx2, hx3, hx4, hx5, hx6⟩ := hq e he
     have HN2 : Hid (N ++ [e.1] = (E.take (k + 1)).map Prod.fst) := Lib.hid (by rw [List.take_succ_eq_append_getElem hlt', List.map_append, HN.out, he]; rfl)
     have hrx := Rl.new (W := wr.alloc (.cells (enC e).toArray 128)) (B := wr.heap.size + 1) (by simp) 30 [e.1]
     have hv0 := (hown.alloc (.cells (enC e).toArray 128)).alloc (.cells (scells [e.1]).toArray 30)
     have hvl := hown.lt
     have z5 := hgr.size
     have z6 := hg2.size
     clear he HN hown hq hb
     go_wp2_with
      (
       at_builtin
       go_loud (
       refine wpList_append_rd rfl (.tmp 35) (.tmp 38) 24 rfl w2.heap.size 30 i0 _ 5 64 Tryz.underlying24 hi0 hz0 hz1 hz2 rfl (by decide) _ k _ rfl hv0 (some ⟨wr.heap.size + 1, 0, none⟩) 1 _ (scells [e.1]) rfl hrx (scells_one _) (by unfold maxLen; omega) (by omega) (by simp; omega) ?_
       intro v' w7 hown7 hgr7 hat7))
     have hg7 : Gr w w7 := Gr.grown (Gr.alloc (Gr.alloc hgr _) _) hgr7 (fun j hj => by have := (hvl j hj).1; have := gw2.size; omega)
     have hg27 : Gr w2 w7 := Gr.grown (Gr.alloc (Gr.alloc hg2 _) _) hgr7 (fun j hj => (hvl j hj).1)
     have hown8 : w7.ownsRow w2.heap.size 30 5 v' (k + 1) (scells (N ++ [e.1])) := by rw [scells_append]; exact hown7
     clear hv0 hvl hgr7 hat7 hrx hown7 hx0 hx1 hx2 hx3 hx4 hx5 hx6
     go_roundw
     case rel => exact ⟨k + 1, N ++ [e.1], by omega, by go_num, hg7, hg27, hown8, by simp [hNl], HN2⟩
     case measure => simp [intOf]; omega
    ·
     have hkk : k = L.length := by omega
     subst hkk
     obtain ⟨A2, c2, hvv⟩ := own_form hown
     subst hvv
     have hcap := own_cap hown
     have HM2 : Hid (N = sortR (fun a b => ltV r.least (ofR r.by_ a.s.vals) (ofR r.by_ b.s.vals)) L) := Lib.hid (by rw [HN.out, ← hEl, List.take_length, HE.out])
     have hRl : Rl wr A2 N := by have h := Rd.own hown; unfold Rl; rw [hNl]; exact h
     clear HN hown HE
     go_wp2
     go_ret
     exact ⟨A2, c2, ret_slice (by rw [← HM2.out, hNl]), by rw [← HM2.out, hNl]; exact hcap, by rw [← HM2.out]; exact hRl, hgr⟩
end Go.Proofs.YtbdichmkgcngbaaGreat
namespace Go.Proofs.YtbdichmkgcngbaaGreat
set_option linter.unusedVariables false
set_option linter.unusedSimpArgs false
open Go.RowKit

set_option maxRecDepth 100000 in
set_option maxHeartbeats 3200000 in
theorem clones_any (A : Option Addr) (c : Nat) (L : List Sq) (w : World) (hl : L.length ≤ 1000000) (hr : Rl w A L) :
  Calls Tryz.prog 55 #[.slice A L.length c] w fun e w' => ∃ A' c', e = .returned (.slice A' L.length c') ∧ w'.ownsRow w.heap.size 30 5 (.slice A' L.length c') L.length (scells L) ∧ Gr w w' := by
 cases A with
 | none =>
  have h0 : L = [] := by
   rcases Nat.eq_zero_or_pos L.length with h | h
   ·
    exact List.eq_nil_of_length_eq_zero h
   ·
    obtain ⟨ad, e, _⟩ := hr.2 h; cases e
  subst h0
  have q22 : ∀ (w : World) (a : Option Addr) (n c n' c' : Nat), (binOp .eql 24 (.slice a n c) (.slice none n' c')).run Tryz.prog w = .ok (.bool a.isNone) w := fun w a n c n' c' => Lib.run_eql_slice_nil w _ _ a n c n' c' Tryz.underlying24
  go_enter Tryz.func55, Tryz.ntmps55
  go_wp2
  go_ret
  exact ⟨none, 0, rfl, World.ownsRow_nil _ _ _ _, (by repeat (first | exact Gr.refl _ | refine Gr.alloc ?_ _ | refine Gr.drew ?_ | refine Gr.setCell ?_ (by first | (simp; done) | (simp; omega) | omega) _ | refine Gr.trans ?_ (by assumption)))⟩
 | some ad =>
  obtain ⟨i0, hi, hz0, hz1, hz2⟩ := info_parts info_ser
  have hown0 := own_empty w w.heap.size (Nat.le_refl _) 30 5
  have hr0 : Rd (w.alloc (.cells #[] 30)) 5 (some ad) L.length (scells L) := Rd.gr hr (Gr.alloc (Gr.refl w) (.cells #[] 30))
  have q22 : ∀ (w : World) (a : Option Addr) (n c n' c' : Nat), (binOp .eql 24 (.slice a n c) (.slice none n' c')).run Tryz.prog w = .ok (.bool a.isNone) w := fun w a n c n' c' => Lib.run_eql_slice_nil w _ _ a n c n' c' Tryz.underlying24
  go_enter Tryz.func55, Tryz.ntmps55
  go_wp2_with (at_builtin; refine wpList_append_rd rfl (.tmp 5) (.tmp 6) 24 rfl w.heap.size 30 i0 _ 5 64 Tryz.underlying24 hi hz0 hz1 hz2 rfl (by decide) _ _ _ rfl hown0 (some ad) L.length c (scells L) rfl hr0 (scells_one _) (by unfold maxLen; omega) (by omega) (by simp) ?_; intro v' w2 hown2 hgr2 hat2)
  have hg2 : Gr w w2 := Gr.grown (Gr.alloc (Gr.refl w) _) hgr2 (fun k hk => by have h : some w.heap.size = some k := hk; injection h with h; omega)
  rw [Nat.zero_add, List.nil_append] at hown2
  obtain ⟨A', c', hv⟩ := own_form hown2
  subst hv
  clear hgr2 hat2 hown0 hr0
  go_wp2
  go_ret
  exact ⟨A', c', rfl, hown2, hg2⟩

set_option maxRecDepth 100000 in
set_option maxHeartbeats 3200000 in
theorem does1_any (nm : ByteArray) (by_ : Int) (least : Bool) (ko : Bool) (kn_ : Int) (A : Option Addr) (c : Nat) (L : List Sq) (w : World) (hk : isB ⟨ko, kn_⟩ = true) (h20 : L.length ≤ 20) (hcap : L.length ≤ c) (hle : ∀ x ∈ L, x.s.vals.length ≤ 1000000) (hr : Rl w A L) (hv : Lie w L) :
  Calls Tryz.prog 34 #[.agg #[.string nm, .int .i64 1, .int .i64 by_, .bool least], .agg #[.bool ko, .int .i64 kn_], .slice A L.length c] w (RetL (firstL ⟨ko, kn_⟩ L) w) := by
 have hl : L.length ≤ 1000000 := by omega
 have gw : Gr w ((w.alloc (.cells #[.string nm, .int .i64 1, .int .i64 by_, .bool least] 45)).alloc (.cells #[.bool ko, .int .i64 kn_] 23)) := Gr.alloc (Gr.alloc (Gr.refl _) _) _
 go_enter Tryz.func34, Tryz.ntmps34
 go_wp2_with fail
 refine (first_any ⟨ko, kn_⟩ A c L _ hk hl hcap (hr.gr gw)).mono ?_; rintro e w1 ⟨A1, c1, rfl, hc1, hr1, hg⟩
 go_wp2
 go_ret
 exact ⟨A1, c1, rfl, hc1, hr1, Gr.trans gw hg⟩

set_option maxRecDepth 100000 in
set_option maxHeartbeats 3200000 in
theorem does2_any (nm : ByteArray) (by_ : Int) (least : Bool) (ko : Bool) (kn_ : Int) (A : Option Addr) (c : Nat) (L : List Sq) (w : World) (hk : isB ⟨ko, kn_⟩ = true) (h20 : L.length ≤ 20) (hcap : L.length ≤ c) (hle : ∀ x ∈ L, x.s.vals.length ≤ 1000000) (hr : Rl w A L) (hv : Lie w L) :
  Calls Tryz.prog 34 #[.agg #[.string nm, .int .i64 2, .int .i64 by_, .bool least], .agg #[.bool ko, .int .i64 kn_], .slice A L.length c] w (RetL (sortR (fun a b => ltN a.s.name b.s.name) L) w) := by
 have hl : L.length ≤ 1000000 := by omega
 have gw : Gr w ((w.alloc (.cells #[.string nm, .int .i64 2, .int .i64 by_, .bool least] 45)).alloc (.cells #[.bool ko, .int .i64 kn_] 23)) := Gr.alloc (Gr.alloc (Gr.refl _) _) _
 go_enter Tryz.func34, Tryz.ntmps34
 go_wp2_with fail
 refine (clones_any A c L _ hl (hr.gr gw)).mono ?_; rintro e w1 ⟨A1, c1, rfl, hown, hg⟩
 have gw1 := Gr.trans gw hg
 have QS := Lib.hid (sortn_any _ c1 A1 L w w1 h20 hown gw1 gw.size)
 have hcap1 := own_cap hown
 clear hown hg
 go_wp2_with fail
 refine QS.out.mono ?_; rintro e w2 ⟨rfl, hg2, hrd⟩
 have hrl : Rl w2 A1 (sortR (fun a b => ltN a.s.name b.s.name) L) := by unfold Rl; rw [sortR_len]; exact hrd
 have HL : Hid (L.length = (sortR (fun a b => ltN a.s.name b.s.name) L).length) := Lib.hid (by rw [sortR_len])
 clear hrd
 go_wp2
 go_ret
 exact ⟨A1, c1, ret_slice HL.out, by rw [← HL.out]; exact hcap1, hrl, hg2⟩

set_option maxRecDepth 100000 in
set_option maxHeartbeats 3200000 in
theorem does3_any (nm : ByteArray) (by_ : Int) (least : Bool) (ko : Bool) (kn_ : Int) (A : Option Addr) (c : Nat) (L : List Sq) (w : World) (hk : isB ⟨ko, kn_⟩ = true) (h20 : L.length ≤ 20) (hcap : L.length ≤ c) (hle : ∀ x ∈ L, x.s.vals.length ≤ 1000000) (hr : Rl w A L) (hv : Lie w L) :
  Calls Tryz.prog 34 #[.agg #[.string nm, .int .i64 3, .int .i64 by_, .bool least], .agg #[.bool ko, .int .i64 kn_], .slice A L.length c] w (RetL (sortR (fun a b => ltV least (ofR by_ a.s.vals) (ofR by_ b.s.vals)) L) w) := by
 have hl : L.length ≤ 1000000 := by omega
 have gw : Gr w ((w.alloc (.cells #[.string nm, .int .i64 3, .int .i64 by_, .bool least] 45)).alloc (.cells #[.bool ko, .int .i64 kn_] 23)) := Gr.alloc (Gr.alloc (Gr.refl _) _) _
 have Q := fun w hr hv => sorted_any ⟨nm, 3, by_, least⟩ A c L w h20 hle hr hv
 unfold aggFr at Q
 simp only at Q
 go_enter Tryz.func34, Tryz.ntmps34
 go_wp2_with fail
 refine (Q _ (hr.gr gw) (hv.gr gw)).mono ?_; rintro e w1 ⟨A1, c1, rfl, hc1, hr1, hg⟩
 go_wp2
 go_ret
 exact ⟨A1, c1, rfl, hc1, hr1, Gr.trans gw hg⟩

def DoS (B : Nat) (r : Fr) (k : Vl) (W : World) : Prop := FAt W B r ∧ VAt W (B + 1) k

set_option maxRecDepth 100000 in
set_option maxHeartbeats 3200000 in
theorem does4_any (nm : ByteArray) (by_ : Int) (least : Bool) (ko : Bool) (kn_ : Int) (A : Option Addr) (c : Nat) (L : List Sq) (w : World) (hk : isB ⟨ko, kn_⟩ = true) (h20 : L.length ≤ 20) (hcap : L.length ≤ c) (hle : ∀ x ∈ L, x.s.vals.length ≤ 1000000) (hr : Rl w A L) (hv : Lie w L) :
  Calls Tryz.prog 34 #[.agg #[.string nm, .int .i64 4, .int .i64 by_, .bool least], .agg #[.bool ko, .int .i64 kn_], .slice A L.length c] w (RetL (firstL ⟨ko, kn_⟩ (sortR (fun a b => ltV least (ofR by_ a.s.vals) (ofR by_ b.s.vals)) L)) w) := by
 have hl : L.length ≤ 1000000 := by omega
 have gw : Gr w ((w.alloc (.cells #[.string nm, .int .i64 4, .int .i64 by_, .bool least] 45)).alloc (.cells #[.bool ko, .int .i64 kn_] 23)) := Gr.alloc (Gr.alloc (Gr.refl _) _) _
 have Q := fun w hr hv => sorted_any ⟨nm, 4, by_, least⟩ A c L w h20 hle hr hv
 unfold aggFr at Q
 simp only at Q
 have hFA : FAt ((w.alloc (.cells #[.string nm, .int .i64 4, .int .i64 by_, .bool least] 45)).alloc (.cells #[.bool ko, .int .i64 kn_] 23)) w.heap.size ⟨nm, 4, by_, least⟩ := by
  refine ⟨?_, ?_, ?_, ?_, ?_⟩
  all_goals first | (go_simp; done) | (simp; done) | (simp; omega)
 have hVA : VAt ((w.alloc (.cells #[.string nm, .int .i64 4, .int .i64 by_, .bool least] 45)).alloc (.cells #[.bool ko, .int .i64 kn_] 23)) (w.heap.size + 1) ⟨ko, kn_⟩ := by
  refine ⟨?_, ?_, ?_⟩
  all_goals first | (go_simp; done) | (simp; done)
 have hS0 : DoS w.heap.size ⟨nm, 4, by_, least⟩ ⟨ko, kn_⟩ ((w.alloc (.cells #[.string nm, .int .i64 4, .int .i64 by_, .bool least] 45)).alloc (.cells #[.bool ko, .int .i64 kn_] 23)).drew := ⟨hFA.gr (Gr.drew (Gr.refl _)), hVA.gr (Gr.drew (Gr.refl _))⟩
 have gV0 : Gr w ((w.alloc (.cells #[.string nm, .int .i64 4, .int .i64 by_, .bool least] 45)).alloc (.cells #[.bool ko, .int .i64 kn_] 23)).drew := Gr.drew gw
 clear hFA hVA gw
 go_enter Tryz.func34, Tryz.ntmps34
 go_wp2
 obtain ⟨V, hV⟩ : ∃ V, V = ((w.alloc (.cells #[.string nm, .int .i64 4, .int .i64 by_, .bool least] 45)).alloc (.cells #[.bool ko, .int .i64 kn_] 23)).drew := ⟨_, rfl⟩
 refine wp_region_Z 5 (DoS w.heap.size ⟨nm, 4, by_, least⟩ ⟨ko, kn_⟩) (by kernel_rfl) ?_
 rw [← hV] at hS0 gV0 ⊢
 clear hV
 refine wpAnyZ_take (i := 0) (v := ?v1) rfl (by kernel_rfl) (fun _ _ _ h => h) (by rfl) (fun W hS => ?h1) hS0 ?r1
 case h1 => obtain ⟨⟨r0, r1, r2, r3, r4⟩, k0, k1, k2⟩ := hS; go_simp; rfl
 simp only [Act.put, List.setIfInBounds_toArray, List.set_cons_zero, List.set_cons_succ]
 refine wpAnyZ_take (i := 1) (v := ?v2) rfl (by kernel_rfl) (fun _ _ _ h => h) (by rfl) (fun W hS => ?h2) hS0 ?r2
 case h2 => obtain ⟨⟨r0, r1, r2, r3, r4⟩, k0, k1, k2⟩ := hS; go_simp; rfl
 simp only [Act.put, List.setIfInBounds_toArray, List.set_cons_zero, List.set_cons_succ]
 refine wpAnyZ_take (i := 2) (v := ?v3) rfl (by kernel_rfl) (fun _ _ _ h => h) (by rfl) (fun W hS => ?h3) hS0 ?r3
 case h3 => go_simp; rfl
 simp only [Act.put, List.setIfInBounds_toArray, List.set_cons_zero, List.set_cons_succ]
 refine wpAnyZ_ready (rs := [3]) (by kernel_rfl) (by simp) ?_
 refine AllReadyZ.cons rfl (by rfl) (fun K hK => ?_) ?_
 rotate_left
 exact AllReadyZ.nil
 go_simp
 refine (Q _ (hr.gr gV0) (hv.gr gV0)).mono ?_; rintro e w5 ⟨A1, c1, rfl, hc1, hr1, hg5⟩
 have gV5 := Gr.trans gV0 hg5
 have hS5 : DoS w.heap.size ⟨nm, 4, by_, least⟩ ⟨ko, kn_⟩ w5 := ⟨hS0.1.gr hg5, hS0.2.gr hg5⟩
 go_wp2_with fail
 refine hK.out _ _ (fun hnz => ?s4) (fun _ => ?r4)
 case s4 => exact hS5
 clear hK K
 try simp only [Pu]
 refine wpAnyZ_ready (rs := [4]) (by kernel_rfl) (by simp) ?_
 refine AllReadyZ.cons rfl (by rfl) (fun K hK => ?_) ?_
 rotate_left
 exact AllReadyZ.nil
 go_simp
 refine (first_any ⟨ko, kn_⟩ A1 c1 _ _ hk (by rw [sortR_len]; exact hl) hc1 hr1).mono ?_; rintro e w6 ⟨A2, c2, rfl, hc2, hr2, hg6⟩
 have gV6 := Gr.trans gV5 hg6
 have hS6 : DoS w.heap.size ⟨nm, 4, by_, least⟩ ⟨ko, kn_⟩ w6 := ⟨hS5.1.gr hg6, hS5.2.gr hg6⟩
 go_wp2_with fail
 refine hK.out _ _ (fun hnz => ?s5) (fun _ => ?r5)
 case s5 => exact hS6
 clear hK K
 try simp only [Pu]
 refine wpAnyZ_ready (rs := [5]) (by kernel_rfl) (by simp) ?_
 refine AllReadyZ.cons rfl (by rfl) (fun K hK => ?_) ?_
 rotate_left
 exact AllReadyZ.nil
 go_simp
 refine hK.out _ _ (fun hnz => ?s6) (fun _ => ?r6)
 case s6 => exact hS6
 clear hK K
 try simp only [Pu]
 refine wpAnyZ_done (by kernel_rfl) ?_ _
 clear hS0 hS6 Q hS5
 go_wp2
 go_ret
 exact ⟨A2, c2, rfl, hc2, hr2, gV6⟩

set_option maxRecDepth 100000 in
set_option maxHeartbeats 3200000 in
theorem does5_any (nm : ByteArray) (by_ : Int) (least : Bool) (ko : Bool) (kn_ : Int) (A : Option Addr) (c : Nat) (L : List Sq) (w : World) (hk : isB ⟨ko, kn_⟩ = true) (h20 : L.length ≤ 20) (hcap : L.length ≤ c) (hle : ∀ x ∈ L, x.s.vals.length ≤ 1000000) (hr : Rl w A L) (hv : Lie w L) :
  Calls Tryz.prog 34 #[.agg #[.string nm, .int .i64 5, .int .i64 by_, .bool least], .agg #[.bool ko, .int .i64 kn_], .slice A L.length c] w (RetL (L.filter fun x => lessB ⟨ko, kn_⟩ (ofR by_ x.s.vals)) w) := by
 have hl : L.length ≤ 1000000 := by omega
 have gw : Gr w ((w.alloc (.cells #[.string nm, .int .i64 5, .int .i64 by_, .bool least] 45)).alloc (.cells #[.bool ko, .int .i64 kn_] 23)) := Gr.alloc (Gr.alloc (Gr.refl _) _) _
 have hFA : FAt ((w.alloc (.cells #[.string nm, .int .i64 5, .int .i64 by_, .bool least] 45)).alloc (.cells #[.bool ko, .int .i64 kn_] 23)) w.heap.size ⟨nm, 5, by_, least⟩ := by
  refine ⟨?_, ?_, ?_, ?_, ?_⟩
  all_goals first | (go_simp; done) | (simp; done) | (simp; omega)
 have hVA : VAt ((w.alloc (.cells #[.string nm, .int .i64 5, .int .i64 by_, .bool least] 45)).alloc (.cells #[.bool ko, .int .i64 kn_] 23)) (w.heap.size + 1) ⟨ko, kn_⟩ := by
  refine ⟨?_, ?_, ?_⟩
  all_goals first | (go_simp; done) | (simp; done)
 have QT := Lib.hid (fun (w2 : World) (g2 : Gr ((w.alloc (.cells #[.string nm, .int .i64 5, .int .i64 by_, .bool least] 45)).alloc (.cells #[.bool ko, .int .i64 kn_] 23)) w2) => thosea_any (.pointer (some ⟨w.heap.size + 1, 0, none⟩)) (.pointer (some ⟨w.heap.size, 0, none⟩)) (fun x => lessB ⟨ko, kn_⟩ (ofR by_ x.s.vals)) A c L w2 hl ((hr.gr gw).gr g2) (fun x hx W hW => above_any (w.heap.size + 1) w.heap.size ⟨ko, kn_⟩ ⟨nm, 5, by_, least⟩ x W ((hVA.gr g2).gr hW) ((hFA.gr g2).gr hW) (hle x hx) ((((hv x hx).gr gw).gr g2).gr hW)))
 clear hFA hVA
 go_enter Tryz.func34, Tryz.ntmps34
 go_wp2_with fail
 refine (QT.out _ (Gr.refl _)).mono ?_; rintro e w1 ⟨A1, c1, rfl, hc1, hr1, hg⟩
 go_wp2
 go_ret
 exact ⟨A1, c1, rfl, hc1, hr1, Gr.trans gw hg⟩

set_option maxRecDepth 100000 in
set_option maxHeartbeats 3200000 in
theorem does6_any (nm : ByteArray) (by_ : Int) (least : Bool) (ko : Bool) (kn_ : Int) (A : Option Addr) (c : Nat) (L : List Sq) (w : World) (hk : isB ⟨ko, kn_⟩ = true) (h20 : L.length ≤ 20) (hcap : L.length ≤ c) (hle : ∀ x ∈ L, x.s.vals.length ≤ 1000000) (hr : Rl w A L) (hv : Lie w L) :
  Calls Tryz.prog 34 #[.agg #[.string nm, .int .i64 6, .int .i64 by_, .bool least], .agg #[.bool ko, .int .i64 kn_], .slice A L.length c] w (RetL (L.filter fun x => belowB ⟨ko, kn_⟩ (ofR by_ x.s.vals)) w) := by
 have hl : L.length ≤ 1000000 := by omega
 have gw : Gr w ((w.alloc (.cells #[.string nm, .int .i64 6, .int .i64 by_, .bool least] 45)).alloc (.cells #[.bool ko, .int .i64 kn_] 23)) := Gr.alloc (Gr.alloc (Gr.refl _) _) _
 have hFA : FAt ((w.alloc (.cells #[.string nm, .int .i64 6, .int .i64 by_, .bool least] 45)).alloc (.cells #[.bool ko, .int .i64 kn_] 23)) w.heap.size ⟨nm, 6, by_, least⟩ := by
  refine ⟨?_, ?_, ?_, ?_, ?_⟩
  all_goals first | (go_simp; done) | (simp; done) | (simp; omega)
 have hVA : VAt ((w.alloc (.cells #[.string nm, .int .i64 6, .int .i64 by_, .bool least] 45)).alloc (.cells #[.bool ko, .int .i64 kn_] 23)) (w.heap.size + 1) ⟨ko, kn_⟩ := by
  refine ⟨?_, ?_, ?_⟩
  all_goals first | (go_simp; done) | (simp; done)
 have QT := Lib.hid (fun (w2 : World) (g2 : Gr ((w.alloc (.cells #[.string nm, .int .i64 6, .int .i64 by_, .bool least] 45)).alloc (.cells #[.bool ko, .int .i64 kn_] 23)) w2) => thoseb_any (.pointer (some ⟨w.heap.size, 0, none⟩)) (.pointer (some ⟨w.heap.size + 1, 0, none⟩)) (fun x => belowB ⟨ko, kn_⟩ (ofR by_ x.s.vals)) A c L w2 hl ((hr.gr gw).gr g2) (fun x hx W hW => below_any (w.heap.size + 1) w.heap.size ⟨ko, kn_⟩ ⟨nm, 6, by_, least⟩ x W ((hVA.gr g2).gr hW) ((hFA.gr g2).gr hW) (hle x hx) ((((hv x hx).gr gw).gr g2).gr hW)))
 clear hFA hVA
 go_enter Tryz.func34, Tryz.ntmps34
 go_wp2_with fail
 refine (QT.out _ (Gr.refl _)).mono ?_; rintro e w1 ⟨A1, c1, rfl, hc1, hr1, hg⟩
 go_wp2
 go_ret
 exact ⟨A1, c1, rfl, hc1, hr1, Gr.trans gw hg⟩

set_option maxRecDepth 100000 in
set_option maxHeartbeats 3200000 in
theorem does7_any (nm : ByteArray) (by_ : Int) (least : Bool) (ko : Bool) (kn_ : Int) (A : Option Addr) (c : Nat) (L : List Sq) (w : World) (hk : isB ⟨ko, kn_⟩ = true) (h20 : L.length ≤ 20) (hcap : L.length ≤ c) (hle : ∀ x ∈ L, x.s.vals.length ≤ 1000000) (hr : Rl w A L) (hv : Lie w L) :
  Calls Tryz.prog 34 #[.agg #[.string nm, .int .i64 7, .int .i64 by_, .bool least], .agg #[.bool ko, .int .i64 kn_], .slice A L.length c] w (RetL (L.filter fun x => !(kn x.s.vals).isEmpty) w) := by
 have hl : L.length ≤ 1000000 := by omega
 have gw : Gr w ((w.alloc (.cells #[.string nm, .int .i64 7, .int .i64 by_, .bool least] 45)).alloc (.cells #[.bool ko, .int .i64 kn_] 23)) := Gr.alloc (Gr.alloc (Gr.refl _) _) _
 have hFA : FAt ((w.alloc (.cells #[.string nm, .int .i64 7, .int .i64 by_, .bool least] 45)).alloc (.cells #[.bool ko, .int .i64 kn_] 23)) w.heap.size ⟨nm, 7, by_, least⟩ := by
  refine ⟨?_, ?_, ?_, ?_, ?_⟩
  all_goals first | (go_simp; done) | (simp; done) | (simp; omega)
 have hVA : VAt ((w.alloc (.cells #[.string nm, .int .i64 7, .int .i64 by_, .bool least] 45)).alloc (.cells #[.bool ko, .int .i64 kn_] 23)) (w.heap.size + 1) ⟨ko, kn_⟩ := by
  refine ⟨?_, ?_, ?_⟩
  all_goals first | (go_simp; done) | (simp; done)
 have QT := Lib.hid (fun (w2 : World) (g2 : Gr ((w.alloc (.cells #[.string nm, .int .i64 7, .int .i64 by_, .bool least] 45)).alloc (.cells #[.bool ko, .int .i64 kn_] 23)) w2) => thosek_any (fun x => !(kn x.s.vals).isEmpty) A c L w2 hl ((hr.gr gw).gr g2) (fun x hx W hW => keepsk_any x W (hle x hx) ((((hv x hx).gr gw).gr g2).gr hW)))
 clear hFA hVA
 go_enter Tryz.func34, Tryz.ntmps34
 go_wp2_with fail
 refine (QT.out _ (Gr.refl _)).mono ?_; rintro e w1 ⟨A1, c1, rfl, hc1, hr1, hg⟩
 go_wp2
 go_ret
 exact ⟨A1, c1, rfl, hc1, hr1, Gr.trans gw hg⟩

/-- fpick's does: what a function picks. -/
theorem does_any (r : Fr) (k : Vl) (A : Option Addr) (c : Nat) (L : List Sq) (w : World) (hk : isB k = true) (h20 : L.length ≤ 20) (hcap : L.length ≤ c) (hle : ∀ x ∈ L, x.s.vals.length ≤ 1000000) (hr : Rl w A L) (hv : Lie w L) (h1 : 1 ≤ r.kind) (h7 : r.kind ≤ 7) :
  Calls Tryz.prog 34 #[aggFr r, .agg #[.bool k.ok, .int .i64 k.n], .slice A L.length c] w (RetL (pickA Sq.s r k L) w) := by
 obtain ⟨nm, kind, by_, least⟩ := r
 obtain ⟨ko, kn_⟩ := k
 simp only at h1 h7
 have hc : kind = 1 ∨ kind = 2 ∨ kind = 3 ∨ kind = 4 ∨ kind = 5 ∨ kind = 6 ∨ kind = 7 := by omega
 rcases hc with rfl | rfl | rfl | rfl | rfl | rfl | rfl
 ·
  exact does1_any nm by_ least ko kn_ A c L w hk h20 hcap hle hr hv
 ·
  exact does2_any nm by_ least ko kn_ A c L w hk h20 hcap hle hr hv
 ·
  exact does3_any nm by_ least ko kn_ A c L w hk h20 hcap hle hr hv
 ·
  exact does4_any nm by_ least ko kn_ A c L w hk h20 hcap hle hr hv
 ·
  exact does5_any nm by_ least ko kn_ A c L w hk h20 hcap hle hr hv
 ·
  exact does6_any nm by_ least ko kn_ A c L w hk h20 hcap hle hr hv
 ·
  exact does7_any nm by_ least ko kn_ A c L w hk h20 hcap hle hr hv
end Go.Proofs.YtbdichmkgcngbaaGreat
