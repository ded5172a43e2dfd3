/- The contract of rex.writer.splits. -/
import Derived.Test.YtpcmdijgepbilaaRxWrt
import Derived.Test.YtpcmdijgepbilaaRegZ
import Derived.Test.YtpcmdijgepbilaaStore
namespace Go.Proofs.Ytpcmdijgepbilaa
set_option linter.unusedVariables false
set_option linter.unusedSimpArgs false
open Go.RowKit

theorem icells_set (code : List In) : ∀ (i : Nat) (h : i < code.length) (x y : Int), ((icells code).set (i * 4 + 1) (.int .i64 x)).set (i * 4 + 2) (.int .i64 y) = icells (code.set i ⟨code[i].op, x, y, code[i].ps⟩) := by
  induction code with
  | nil => intro i h; simp at h
  | cons v l ih =>
    intro i h x y
    match i, h with
    | 0, _ => rfl
    | i + 1, h =>
      have h' : i < l.length := by simpa using h
      have e1 : (i + 1) * 4 + 1 = (i * 4 + 1) + 1 + 1 + 1 + 1 := by omega
      have e2 : (i + 1) * 4 + 2 = (i * 4 + 2) + 1 + 1 + 1 + 1 := by omega
      rw [icells_cons, e1, e2]
      simp only [List.set_cons_succ, List.getElem_cons_succ, icells_cons]
      rw [ih i h' x y]
/-- the cells that splits reads and sets. -/
def SpS (B g n c i : Nat) (W : World) : Prop := W.cell? ⟨B, 0, none⟩ = some (.slice (some ⟨g, 0, none⟩) n c) ∧ (∀ j, W.frozen? ⟨g, j, none⟩ = false) ∧ (∃ u, W.cell? ⟨g, i * 4 + 1, none⟩ = some u) ∧ ∃ u, W.cell? ⟨g, i * 4 + 2, none⟩ = some u
theorem SpS.set {B g n c i : Nat} {W : World} (h : SpS B g n c i W) (hB : B ≠ g) (u : Value) : SpS B g n c i (W.setCell ⟨g, i * 4 + 1, none⟩ u) := by
  obtain ⟨h0, h1, ⟨u1, h2⟩, u2, h3⟩ := h
  refine ⟨(World.cell?_setCell_other W _ ⟨B, 0, none⟩ _ (by first | (simp; done) | (simp; omega))).trans h0, fun j => by rw [World.frozen?_setCell]; exact h1 j, ?_, u2, (World.cell?_setCell_other W _ ⟨g, i * 4 + 2, none⟩ _ (by first | (simp; done) | (simp; omega))).trans h3⟩
  exact ⟨u, by go_simp⟩
theorem WrtA.form {w : World} {B : Nat} {A : Option Addr} {code : List In} (h : WrtA w B A code) (h0 : 0 < code.length) : ∃ g, A = some ⟨g, 0, none⟩ := by
  obtain ⟨c, _, _, own, _⟩ := h
  obtain ⟨_, ⟨_, h0'⟩ | ⟨g', cap, cur, hv, _⟩⟩ := own
  · omega
  · injection hv with hv1 _ _
    exact ⟨g', hv1⟩
set_option maxRecDepth 100000 in
set_option maxHeartbeats 3200000 in
theorem splits_false {w : World} {B : Nat} {A : Option Addr} {code : List In} (h : WrtA w B A code) (hb : code.length ≤ 4096) (i : Nat) (hi : i < code.length) (x y : Int) :
    Calls Try.prog 22 #[.pointer (some ⟨B, 0, none⟩), .int .i64 i, .int .i64 x, .int .i64 y, .bool false] w fun e w' => e = .returned (.tuple #[]) ∧ WrtA w' B A (code.set i ⟨code[i].op, x, y, code[i].ps⟩) ∧ WX B w (blk A) w' (blk A) := by
  obtain ⟨g, rfl⟩ := h.form (by omega)
  obtain ⟨c, h1, h2, own, h4⟩ := h
  obtain ⟨hgl, hgs⟩ := own.lt g rfl
  have hn4 := own.1
  obtain ⟨n, hn⟩ : ∃ n, n = code.length := ⟨_, rfl⟩
  have hin : i < n := by omega
  have hi' : (i : Int) < n := by omega
  obtain ⟨res, hres⟩ : ∃ res, code.set i ⟨code[i].op, x, y, code[i].ps⟩ = res := ⟨_, rfl⟩
  rw [hres]
  have hrl : res.length = n := by rw [← hres, hn]; simp
  have hst := icells_set code i hi x y
  rw [hres] at hst
  rw [← hn] at h1 own hn4
  obtain ⟨cs, hcs⟩ : ∃ cs, icells code = cs := ⟨_, rfl⟩
  rw [hcs] at own hn4 hst
  obtain ⟨cr, hcr⟩ : ∃ cr, icells res = cr := ⟨_, rfl⟩
  rw [hcr] at hst
  have Hst := Lib.hid hst
  have Hcr := Lib.hid hcr
  have Hrl := Lib.hid hrl
  obtain ⟨u1, hu1⟩ : ∃ u, w.cell? ⟨g, i * 4 + 1, none⟩ = some u := by
    have := own.cellAt (i * 4 + 1) (by omega)
    rw [List.getElem?_eq_getElem (by omega)] at this
    exact ⟨_, this⟩
  obtain ⟨u2, hu2⟩ : ∃ u, w.cell? ⟨g, i * 4 + 2, none⟩ = some u := by
    have := own.cellAt (i * 4 + 2) (by omega)
    rw [List.getElem?_eq_getElem (by omega)] at this
    exact ⟨_, this⟩
  have hf1 := own.frozenAt (i * 4 + 1)
  have hf2 := own.frozenAt (i * 4 + 2)
  have hfa := own.frozenAt
  have Hown := Lib.hid own
  clear hn hres hn4 hst hcr hcs hrl own hi hb
  go_enter Try.func22, Try.ntmps22
  go_upto_region 2 with (fail)
  have hS0 : SpS B g n c i w.drew := ⟨h1, hfa, ⟨u1, hu1⟩, ⟨u2, hu2⟩⟩
  refine wp_region_Z 17 (SpS B g n c i) (by kernel_rfl) ?_
  have hBg : B ≠ g := by omega
  clear hfa h1
  refine wpAnyZ_take (i := 0) (v := ?v1) rfl (by kernel_rfl) (fun _ _ _ h => h) (by rfl) (fun W hS => ?h1) hS0 ?r1
  case h1 =>
    go_simp
    rfl
  simp only [Act.put, List.getElem_toArray, List.getElem_cons_succ, List.getElem_cons_zero, List.setIfInBounds_toArray, List.set_cons_zero, List.set_cons_succ]
  refine wpAnyZ_take (i := 1) (v := ?v2) rfl (by kernel_rfl) (fun _ _ _ h => h) (by rfl) (fun W hS => ?h2) hS0 ?r2
  case h2 =>
    go_simp
    rfl
  simp only [Act.put, List.getElem_toArray, List.getElem_cons_succ, List.getElem_cons_zero, List.setIfInBounds_toArray, List.set_cons_zero, List.set_cons_succ]
  refine wpAnyZ_take (i := 2) (v := ?v3) rfl (by kernel_rfl) (fun _ _ _ h => h) (by rfl) (fun W hS => ?h3) hS0 ?r3
  case h3 =>
    go_simp
    rfl
  simp only [Act.put, List.getElem_toArray, List.getElem_cons_succ, List.getElem_cons_zero, List.setIfInBounds_toArray, List.set_cons_zero, List.set_cons_succ]
  refine wpAnyZ_take (i := 3) (v := ?v4) rfl (by kernel_rfl) (fun _ _ _ h => h) (by rfl) (fun W hS => ?h4) hS0 ?r4
  case h4 =>
    obtain ⟨s0, -, -, -⟩ := hS
    go_simp
    rfl
  simp only [Act.put, List.getElem_toArray, List.getElem_cons_succ, List.getElem_cons_zero, List.setIfInBounds_toArray, List.set_cons_zero, List.set_cons_succ]
  refine wpAnyZ_take (i := 4) (v := ?v5) rfl (by kernel_rfl) (fun _ _ _ h => h) (by rfl) (fun W hS => ?h5) hS0 ?r5
  case h5 =>
    go_simp
    rfl
  simp only [Act.put, List.getElem_toArray, List.getElem_cons_succ, List.getElem_cons_zero, List.setIfInBounds_toArray, List.set_cons_zero, List.set_cons_succ]
  refine wpAnyZ_take (i := 5) (v := ?v6) rfl (by kernel_rfl) (fun _ _ _ h => h) (by rfl) (fun W hS => ?h6) hS0 ?r6
  case h6 =>
    go_simp
    rfl
  simp only [Act.put, List.getElem_toArray, List.getElem_cons_succ, List.getElem_cons_zero, List.setIfInBounds_toArray, List.set_cons_zero, List.set_cons_succ]
  refine wpAnyZ_take (i := 6) (v := ?v7) rfl (by kernel_rfl) (fun _ _ _ h => h) (by rfl) (fun W hS => ?h7) hS0 ?r7
  case h7 =>
    go_simp
    rfl
  simp only [Act.put, List.getElem_toArray, List.getElem_cons_succ, List.getElem_cons_zero, List.setIfInBounds_toArray, List.set_cons_zero, List.set_cons_succ]
  refine wpAnyZ_take (i := 7) (v := ?v8) rfl (by kernel_rfl) (fun _ _ _ h => h) (by rfl) (fun W hS => ?h8) hS0 ?r8
  case h8 =>
    go_simp
    rfl
  simp only [Act.put, List.getElem_toArray, List.getElem_cons_succ, List.getElem_cons_zero, List.setIfInBounds_toArray, List.set_cons_zero, List.set_cons_succ]
  refine wpAnyZ_take (i := 8) (v := ?v9) rfl (by kernel_rfl) (fun _ _ _ h => h) (by rfl) (fun W hS => ?h9) hS0 ?r9
  case h9 =>
    obtain ⟨s0, -, -, -⟩ := hS
    go_simp
    rfl
  simp only [Act.put, List.getElem_toArray, List.getElem_cons_succ, List.getElem_cons_zero, List.setIfInBounds_toArray, List.set_cons_zero, List.set_cons_succ]
  refine wpAnyZ_take (i := 9) (v := ?v10) rfl (by kernel_rfl) (fun _ _ _ h => h) (by rfl) (fun W hS => ?h10) hS0 ?r10
  case h10 =>
    go_simp
    rfl
  simp only [Act.put, List.getElem_toArray, List.getElem_cons_succ, List.getElem_cons_zero, List.setIfInBounds_toArray, List.set_cons_zero, List.set_cons_succ]
  refine wpAnyZ_take (i := 10) (v := ?v11) rfl (by kernel_rfl) (fun _ _ _ h => h) (by rfl) (fun W hS => ?h11) hS0 ?r11
  case h11 =>
    go_simp
    rfl
  simp only [Act.put, List.getElem_toArray, List.getElem_cons_succ, List.getElem_cons_zero, List.setIfInBounds_toArray, List.set_cons_zero, List.set_cons_succ]
  refine wpAnyZ_take (i := 11) (v := ?v12) rfl (by kernel_rfl) (fun _ _ _ h => h) (by rfl) (fun W hS => ?h12) hS0 ?r12
  case h12 =>
    go_simp
    rfl
  simp only [Act.put, List.getElem_toArray, List.getElem_cons_succ, List.getElem_cons_zero, List.setIfInBounds_toArray, List.set_cons_zero, List.set_cons_succ]
  refine wpAnyZ_take (i := 12) (v := ?v13) rfl (by kernel_rfl) (fun _ _ _ h => h) (by rfl) (fun W hS => ?h13) hS0 ?r13
  case h13 =>
    go_simp
    rfl
  simp only [Act.put, List.getElem_toArray, List.getElem_cons_succ, List.getElem_cons_zero, List.setIfInBounds_toArray, List.set_cons_zero, List.set_cons_succ]
  refine wpAnyZ_take (i := 13) (v := ?v14) rfl (by kernel_rfl) (fun _ _ _ h => h) (by rfl) (fun W hS => ?h14) hS0 ?r14
  case h14 =>
    go_simp
    rfl
  simp only [Act.put, List.getElem_toArray, List.getElem_cons_succ, List.getElem_cons_zero, List.setIfInBounds_toArray, List.set_cons_zero, List.set_cons_succ]
  refine wpAnyZ_ready (rs := [14]) (by kernel_rfl) (by simp) ?_
  refine AllReadyZ.cons (i := 14) rfl (by kernel_rfl) ?x314 AllReadyZ.nil
  intro K hK
  simp only [List.getElem_toArray, List.getElem_cons_succ, List.getElem_cons_zero]
  refine wp_store_cell _ _ _ rfl ⟨g, i * 4 + 1, none⟩ (.int .i64 x) u1 ?a1 ?a2 hu1 hf1 (by kernel_rfl) rfl ?a3
  case a1 => first | rfl | (simp [Act.eval, Addr.add]; done)
  case a2 => first | rfl | (simp [Act.eval]; done)
  refine hK.out _ _ (fun _ => ?zs1) (fun _ => ?zr1)
  case zs1 => exact SpS.set hS0 hBg _
  clear hK K
  simp only [Act.put, List.getElem_toArray, List.getElem_cons_succ, List.getElem_cons_zero, List.setIfInBounds_toArray, List.set_cons_zero, List.set_cons_succ]
  have hS1 := SpS.set hS0 hBg (.int .i64 x)
  obtain ⟨V1, hV1⟩ : ∃ V1, V1 = w.drew.setCell ⟨g, i * 4 + 1, none⟩ (.int .i64 x) := ⟨_, rfl⟩
  rw [← hV1] at hS1 ⊢
  refine wpAnyZ_take (i := 15) (v := ?v15) rfl (by kernel_rfl) (fun _ _ _ h => h) (by rfl) (fun W hS => ?h15) hS1 ?r15
  case h15 =>
    go_simp
    rfl
  simp only [Act.put, List.getElem_toArray, List.getElem_cons_succ, List.getElem_cons_zero, List.setIfInBounds_toArray, List.set_cons_zero, List.set_cons_succ]
  refine wpAnyZ_take (i := 16) (v := ?v16) rfl (by kernel_rfl) (fun _ _ _ h => h) (by rfl) (fun W hS => ?h16) hS1 ?r16
  case h16 =>
    go_simp
    rfl
  simp only [Act.put, List.getElem_toArray, List.getElem_cons_succ, List.getElem_cons_zero, List.setIfInBounds_toArray, List.set_cons_zero, List.set_cons_succ]
  refine wpAnyZ_ready (rs := [17]) (by kernel_rfl) (by simp) ?_
  refine AllReadyZ.cons (i := 17) rfl (by kernel_rfl) ?x317 AllReadyZ.nil
  intro K hK
  simp only [List.getElem_toArray, List.getElem_cons_succ, List.getElem_cons_zero]
  obtain ⟨u2', hu2'⟩ := hS1.2.2.2
  refine wp_store_cell _ _ _ rfl ⟨g, i * 4 + 2, none⟩ (.int .i64 y) u2' ?b1 ?b2 hu2' (hS1.2.1 _) (by kernel_rfl) rfl ?b3
  case b1 => first | rfl | (simp [Act.eval, Addr.add]; done)
  case b2 => first | rfl | (simp [Act.eval]; done)
  refine hK.out _ _ (fun hnz => absurd rfl hnz) (fun _ => ?zr2)
  clear hK K
  simp only [Act.put, List.getElem_toArray, List.getElem_cons_succ, List.getElem_cons_zero, List.setIfInBounds_toArray, List.set_cons_zero, List.set_cons_succ]
  refine wpAnyZ_done (by kernel_rfl) ?_ _
  subst hV1
  go_wp2
  go_end0
  have own := Hown.out
  obtain ⟨o1, -⟩ := own.drew.stored (i * 4 + 1) (.int .i64 x)
  obtain ⟨o2, -⟩ := o1.stored (i * 4 + 2) (.int .i64 y)
  rw [Hst.out, ← Hcr.out] at o2
  refine ⟨rfl, ⟨c, ?_, ?_, ?_, ?_⟩, ((WX.gr (some g) (Gr.drew (Gr.refl w))).set (p := ⟨g, i * 4 + 1, none⟩) (.inr rfl) _).set (p := ⟨g, i * 4 + 2, none⟩) (.inr rfl) _⟩
  · rw [Hrl.out]
    exact (World.cell?_setCell_other _ _ ⟨B, 0, none⟩ _ (by first | (simp; done) | (simp; omega))).trans ((World.cell?_setCell_other _ _ ⟨B, 0, none⟩ _ (by first | (simp; done) | (simp; omega))).trans hS0.1)
  · rw [World.frozen?_setCell, World.frozen?_setCell]; exact h2
  · rw [Hrl.out]; exact o2
  · simpa using h4

set_option maxRecDepth 100000 in
set_option maxHeartbeats 3200000 in
theorem splits_true {w : World} {B : Nat} {A : Option Addr} {code : List In} (h : WrtA w B A code) (hb : code.length ≤ 4096) (i : Nat) (hi : i < code.length) (x y : Int) :
    Calls Try.prog 22 #[.pointer (some ⟨B, 0, none⟩), .int .i64 i, .int .i64 x, .int .i64 y, .bool true] w fun e w' => e = .returned (.tuple #[]) ∧ WrtA w' B A (code.set i ⟨code[i].op, y, x, code[i].ps⟩) ∧ WX B w (blk A) w' (blk A) := by
  obtain ⟨g, rfl⟩ := h.form (by omega)
  obtain ⟨c, h1, h2, own, h4⟩ := h
  obtain ⟨hgl, hgs⟩ := own.lt g rfl
  have hn4 := own.1
  obtain ⟨n, hn⟩ : ∃ n, n = code.length := ⟨_, rfl⟩
  have hin : i < n := by omega
  have hi' : (i : Int) < n := by omega
  obtain ⟨res, hres⟩ : ∃ res, code.set i ⟨code[i].op, y, x, code[i].ps⟩ = res := ⟨_, rfl⟩
  rw [hres]
  have hrl : res.length = n := by rw [← hres, hn]; simp
  have hst := icells_set code i hi y x
  rw [hres] at hst
  rw [← hn] at h1 own hn4
  obtain ⟨cs, hcs⟩ : ∃ cs, icells code = cs := ⟨_, rfl⟩
  rw [hcs] at own hn4 hst
  obtain ⟨cr, hcr⟩ : ∃ cr, icells res = cr := ⟨_, rfl⟩
  rw [hcr] at hst
  have Hst := Lib.hid hst
  have Hcr := Lib.hid hcr
  have Hrl := Lib.hid hrl
  obtain ⟨u1, hu1⟩ : ∃ u, w.cell? ⟨g, i * 4 + 1, none⟩ = some u := by
    have := own.cellAt (i * 4 + 1) (by omega)
    rw [List.getElem?_eq_getElem (by omega)] at this
    exact ⟨_, this⟩
  obtain ⟨u2, hu2⟩ : ∃ u, w.cell? ⟨g, i * 4 + 2, none⟩ = some u := by
    have := own.cellAt (i * 4 + 2) (by omega)
    rw [List.getElem?_eq_getElem (by omega)] at this
    exact ⟨_, this⟩
  have hf1 := own.frozenAt (i * 4 + 1)
  have hf2 := own.frozenAt (i * 4 + 2)
  have hfa := own.frozenAt
  have Hown := Lib.hid own
  clear hn hres hn4 hst hcr hcs hrl own hi hb
  go_enter Try.func22, Try.ntmps22
  go_upto_region 2 with (fail)
  have hS0 : SpS B g n c i w.drew := ⟨h1, hfa, ⟨u1, hu1⟩, ⟨u2, hu2⟩⟩
  refine wp_region_Z 17 (SpS B g n c i) (by kernel_rfl) ?_
  have hBg : B ≠ g := by omega
  clear hfa h1
  refine wpAnyZ_take (i := 0) (v := ?v1) rfl (by kernel_rfl) (fun _ _ _ h => h) (by rfl) (fun W hS => ?h1) hS0 ?r1
  case h1 =>
    go_simp
    rfl
  simp only [Act.put, List.getElem_toArray, List.getElem_cons_succ, List.getElem_cons_zero, List.setIfInBounds_toArray, List.set_cons_zero, List.set_cons_succ]
  refine wpAnyZ_take (i := 1) (v := ?v2) rfl (by kernel_rfl) (fun _ _ _ h => h) (by rfl) (fun W hS => ?h2) hS0 ?r2
  case h2 =>
    go_simp
    rfl
  simp only [Act.put, List.getElem_toArray, List.getElem_cons_succ, List.getElem_cons_zero, List.setIfInBounds_toArray, List.set_cons_zero, List.set_cons_succ]
  refine wpAnyZ_take (i := 2) (v := ?v3) rfl (by kernel_rfl) (fun _ _ _ h => h) (by rfl) (fun W hS => ?h3) hS0 ?r3
  case h3 =>
    go_simp
    rfl
  simp only [Act.put, List.getElem_toArray, List.getElem_cons_succ, List.getElem_cons_zero, List.setIfInBounds_toArray, List.set_cons_zero, List.set_cons_succ]
  refine wpAnyZ_take (i := 3) (v := ?v4) rfl (by kernel_rfl) (fun _ _ _ h => h) (by rfl) (fun W hS => ?h4) hS0 ?r4
  case h4 =>
    obtain ⟨s0, -, -, -⟩ := hS
    go_simp
    rfl
  simp only [Act.put, List.getElem_toArray, List.getElem_cons_succ, List.getElem_cons_zero, List.setIfInBounds_toArray, List.set_cons_zero, List.set_cons_succ]
  refine wpAnyZ_take (i := 4) (v := ?v5) rfl (by kernel_rfl) (fun _ _ _ h => h) (by rfl) (fun W hS => ?h5) hS0 ?r5
  case h5 =>
    go_simp
    rfl
  simp only [Act.put, List.getElem_toArray, List.getElem_cons_succ, List.getElem_cons_zero, List.setIfInBounds_toArray, List.set_cons_zero, List.set_cons_succ]
  refine wpAnyZ_take (i := 5) (v := ?v6) rfl (by kernel_rfl) (fun _ _ _ h => h) (by rfl) (fun W hS => ?h6) hS0 ?r6
  case h6 =>
    go_simp
    rfl
  simp only [Act.put, List.getElem_toArray, List.getElem_cons_succ, List.getElem_cons_zero, List.setIfInBounds_toArray, List.set_cons_zero, List.set_cons_succ]
  refine wpAnyZ_take (i := 6) (v := ?v7) rfl (by kernel_rfl) (fun _ _ _ h => h) (by rfl) (fun W hS => ?h7) hS0 ?r7
  case h7 =>
    go_simp
    rfl
  simp only [Act.put, List.getElem_toArray, List.getElem_cons_succ, List.getElem_cons_zero, List.setIfInBounds_toArray, List.set_cons_zero, List.set_cons_succ]
  refine wpAnyZ_take (i := 7) (v := ?v8) rfl (by kernel_rfl) (fun _ _ _ h => h) (by rfl) (fun W hS => ?h8) hS0 ?r8
  case h8 =>
    go_simp
    rfl
  simp only [Act.put, List.getElem_toArray, List.getElem_cons_succ, List.getElem_cons_zero, List.setIfInBounds_toArray, List.set_cons_zero, List.set_cons_succ]
  refine wpAnyZ_take (i := 8) (v := ?v9) rfl (by kernel_rfl) (fun _ _ _ h => h) (by rfl) (fun W hS => ?h9) hS0 ?r9
  case h9 =>
    obtain ⟨s0, -, -, -⟩ := hS
    go_simp
    rfl
  simp only [Act.put, List.getElem_toArray, List.getElem_cons_succ, List.getElem_cons_zero, List.setIfInBounds_toArray, List.set_cons_zero, List.set_cons_succ]
  refine wpAnyZ_take (i := 9) (v := ?v10) rfl (by kernel_rfl) (fun _ _ _ h => h) (by rfl) (fun W hS => ?h10) hS0 ?r10
  case h10 =>
    go_simp
    rfl
  simp only [Act.put, List.getElem_toArray, List.getElem_cons_succ, List.getElem_cons_zero, List.setIfInBounds_toArray, List.set_cons_zero, List.set_cons_succ]
  refine wpAnyZ_take (i := 10) (v := ?v11) rfl (by kernel_rfl) (fun _ _ _ h => h) (by rfl) (fun W hS => ?h11) hS0 ?r11
  case h11 =>
    go_simp
    rfl
  simp only [Act.put, List.getElem_toArray, List.getElem_cons_succ, List.getElem_cons_zero, List.setIfInBounds_toArray, List.set_cons_zero, List.set_cons_succ]
  refine wpAnyZ_take (i := 11) (v := ?v12) rfl (by kernel_rfl) (fun _ _ _ h => h) (by rfl) (fun W hS => ?h12) hS0 ?r12
  case h12 =>
    go_simp
    rfl
  simp only [Act.put, List.getElem_toArray, List.getElem_cons_succ, List.getElem_cons_zero, List.setIfInBounds_toArray, List.set_cons_zero, List.set_cons_succ]
  refine wpAnyZ_take (i := 12) (v := ?v13) rfl (by kernel_rfl) (fun _ _ _ h => h) (by rfl) (fun W hS => ?h13) hS0 ?r13
  case h13 =>
    go_simp
    rfl
  simp only [Act.put, List.getElem_toArray, List.getElem_cons_succ, List.getElem_cons_zero, List.setIfInBounds_toArray, List.set_cons_zero, List.set_cons_succ]
  refine wpAnyZ_take (i := 13) (v := ?v14) rfl (by kernel_rfl) (fun _ _ _ h => h) (by rfl) (fun W hS => ?h14) hS0 ?r14
  case h14 =>
    go_simp
    rfl
  simp only [Act.put, List.getElem_toArray, List.getElem_cons_succ, List.getElem_cons_zero, List.setIfInBounds_toArray, List.set_cons_zero, List.set_cons_succ]
  refine wpAnyZ_ready (rs := [14]) (by kernel_rfl) (by simp) ?_
  refine AllReadyZ.cons (i := 14) rfl (by kernel_rfl) ?x314 AllReadyZ.nil
  intro K hK
  simp only [List.getElem_toArray, List.getElem_cons_succ, List.getElem_cons_zero]
  refine wp_store_cell _ _ _ rfl ⟨g, i * 4 + 1, none⟩ (.int .i64 y) u1 ?a1 ?a2 hu1 hf1 (by kernel_rfl) rfl ?a3
  case a1 => first | rfl | (simp [Act.eval, Addr.add]; done)
  case a2 => first | rfl | (simp [Act.eval]; done)
  refine hK.out _ _ (fun _ => ?zs1) (fun _ => ?zr1)
  case zs1 => exact SpS.set hS0 hBg _
  clear hK K
  simp only [Act.put, List.getElem_toArray, List.getElem_cons_succ, List.getElem_cons_zero, List.setIfInBounds_toArray, List.set_cons_zero, List.set_cons_succ]
  have hS1 := SpS.set hS0 hBg (.int .i64 y)
  obtain ⟨V1, hV1⟩ : ∃ V1, V1 = w.drew.setCell ⟨g, i * 4 + 1, none⟩ (.int .i64 y) := ⟨_, rfl⟩
  rw [← hV1] at hS1 ⊢
  refine wpAnyZ_take (i := 15) (v := ?v15) rfl (by kernel_rfl) (fun _ _ _ h => h) (by rfl) (fun W hS => ?h15) hS1 ?r15
  case h15 =>
    go_simp
    rfl
  simp only [Act.put, List.getElem_toArray, List.getElem_cons_succ, List.getElem_cons_zero, List.setIfInBounds_toArray, List.set_cons_zero, List.set_cons_succ]
  refine wpAnyZ_take (i := 16) (v := ?v16) rfl (by kernel_rfl) (fun _ _ _ h => h) (by rfl) (fun W hS => ?h16) hS1 ?r16
  case h16 =>
    go_simp
    rfl
  simp only [Act.put, List.getElem_toArray, List.getElem_cons_succ, List.getElem_cons_zero, List.setIfInBounds_toArray, List.set_cons_zero, List.set_cons_succ]
  refine wpAnyZ_ready (rs := [17]) (by kernel_rfl) (by simp) ?_
  refine AllReadyZ.cons (i := 17) rfl (by kernel_rfl) ?x317 AllReadyZ.nil
  intro K hK
  simp only [List.getElem_toArray, List.getElem_cons_succ, List.getElem_cons_zero]
  obtain ⟨u2', hu2'⟩ := hS1.2.2.2
  refine wp_store_cell _ _ _ rfl ⟨g, i * 4 + 2, none⟩ (.int .i64 x) u2' ?b1 ?b2 hu2' (hS1.2.1 _) (by kernel_rfl) rfl ?b3
  case b1 => first | rfl | (simp [Act.eval, Addr.add]; done)
  case b2 => first | rfl | (simp [Act.eval]; done)
  refine hK.out _ _ (fun hnz => absurd rfl hnz) (fun _ => ?zr2)
  clear hK K
  simp only [Act.put, List.getElem_toArray, List.getElem_cons_succ, List.getElem_cons_zero, List.setIfInBounds_toArray, List.set_cons_zero, List.set_cons_succ]
  refine wpAnyZ_done (by kernel_rfl) ?_ _
  subst hV1
  go_wp2
  go_end0
  have own := Hown.out
  obtain ⟨o1, -⟩ := own.drew.stored (i * 4 + 1) (.int .i64 y)
  obtain ⟨o2, -⟩ := o1.stored (i * 4 + 2) (.int .i64 x)
  rw [Hst.out, ← Hcr.out] at o2
  refine ⟨rfl, ⟨c, ?_, ?_, ?_, ?_⟩, ((WX.gr (some g) (Gr.drew (Gr.refl w))).set (p := ⟨g, i * 4 + 1, none⟩) (.inr rfl) _).set (p := ⟨g, i * 4 + 2, none⟩) (.inr rfl) _⟩
  · rw [Hrl.out]
    exact (World.cell?_setCell_other _ _ ⟨B, 0, none⟩ _ (by first | (simp; done) | (simp; omega))).trans ((World.cell?_setCell_other _ _ ⟨B, 0, none⟩ _ (by first | (simp; done) | (simp; omega))).trans hS0.1)
  · rw [World.frozen?_setCell, World.frozen?_setCell]; exact h2
  · rw [Hrl.out]; exact o2
  · simpa using h4
end Go.Proofs.Ytpcmdijgepbilaa
