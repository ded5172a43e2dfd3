/- The contract of rex.writer.piece, one theorem a kind of piece. -/
import Derived.Test.YtpcmdijgepbilaaRxSpl
import Derived.Test.YtpcmdijgepbilaaRegZ
namespace Go.Proofs.Ytpcmdijgepbilaa
set_option linter.unusedVariables false
set_option linter.unusedSimpArgs false
open Go.RowKit

/-- the writer has laid. -/
def RetW (w : World) (B : Nat) (A : Option Addr) (res : List In) (e : Ending) (w' : World) : Prop :=
  e = .returned (.tuple #[]) ∧ ∃ A', WrtA w' B A' res ∧ WX B w (blk A) w' (blk A')
theorem Rd.inst (w : World) (v : In) : Rd (w.alloc (.cells #[.int .i64 v.op, .int .i64 v.x, .int .i64 v.y, .string ⟨v.ps.toArray⟩] 35)) 4 (some ⟨w.heap.size, 0, none⟩) 1 (icells [v]) := by
  refine ⟨rfl, fun _ => ⟨_, rfl, by simp, fun j u hu => ?_⟩⟩
  have := (World.ownsRow_lit (base := 0) (e := 35) (size := 4) w #[.int .i64 v.op, .int .i64 v.x, .int .i64 v.y, .string ⟨v.ps.toArray⟩] 1 (Nat.zero_le _) (by decide) rfl).cells (g := w.heap.size) rfl j u (by simpa [icells] using hu)
  exact this
/-- a contract of lays, of one instruction that has been made. -/
theorem lays_one {w : World} {B : Nat} {A : Option Addr} {code : List In} (h : WrtA w B A code) (v : In) (hb : code.length ≤ 4000) :
    Calls Try.prog 13 #[.pointer (some ⟨B, 0, none⟩), .slice (some ⟨w.heap.size, 0, none⟩) 1 1] (w.alloc (.cells #[.int .i64 v.op, .int .i64 v.x, .int .i64 v.y, .string ⟨v.ps.toArray⟩] 35)) fun e w' => e = .returned (.int .i64 code.length) ∧ ∃ A', WrtA w' B A' (code ++ [v]) ∧ WX B w (blk A) w' (blk A') := by
  have g := Gr.alloc (Gr.refl w) (.cells #[.int .i64 v.op, .int .i64 v.x, .int .i64 v.y, .string ⟨v.ps.toArray⟩] 35)
  refine (lays_any (h.gr g) _ 1 1 [v] rfl (by decide) (Rd.inst w v) (by omega)).mono ?_
  rintro e w' ⟨he, A', h1, h2⟩
  exact ⟨he, A', h1, (WX.gr _ g).trans h2⟩

set_option maxRecDepth 100000 in
set_option maxHeartbeats 3200000 in
theorem put_leaf {w : World} {B : Nat} {A : Option Addr} {code : List In} (hB : WrtA w B A code) (hl : code.length ≤ 1020) {b op : Nat} {ps : List UInt8} (hop : op < 10) (hbs : b < w.heap.size) (hn : Node w b op ps (.slice none 0 0) 0 false) :
    Calls Try.prog 14 #[.pointer (some ⟨B, 0, none⟩), .pointer (some ⟨b, 0, none⟩)] w (RetW w B A (code ++ [⟨op, 0, 0, ps⟩])) := by
  obtain ⟨n0, n1, n2, n3, n4⟩ := hn
  have hful : decide (1024 < (code.length : Int)) = false := by simp; omega
  have t10 : ((op : Int) == 10) = false := by simp; omega
  have t11 : ((op : Int) == 11) = false := by simp; omega
  have t12 : ((op : Int) == 12) = false := by simp; omega
  have t42 : ((op : Int) == 42) = false := by simp; omega
  have t43 : ((op : Int) == 43) = false := by simp; omega
  have t63 : ((op : Int) == 63) = false := by simp; omega
  obtain ⟨L, hL⟩ : ∃ L, L = code.length := ⟨_, rfl⟩
  go_enter Try.func14, Try.ntmps14
  go_upto_region 2 with (go_at_call 15; refine (full_any hB).mono ?_; rintro e w1 ⟨rfl, rfl⟩)
  clear t10 t11 t12 t42 t43 t63 hful n2 n3 n4
  have hS0 : Gr w w.drew := Gr.drew (Gr.refl w)
  refine wp_region_Z 11 (fun W => Gr w W) (by kernel_rfl) ?_
  refine wpAnyZ_take (i := 0) (v := ?v1) rfl (by kernel_rfl) (fun _ _ _ h => h) (by rfl) (fun W hS => ?h1) hS0 ?r1
  case h1 =>
    go_simp
    rfl
  simp only [Act.put, List.getElem_toArray, List.getElem_cons_succ, List.getElem_cons_zero, List.setIfInBounds_toArray, List.set_cons_zero, List.set_cons_succ]
  refine wpAnyZ_take (i := 1) (v := ?v2) rfl (by kernel_rfl) (fun _ _ _ h => h) (by rfl) (fun W hS => ?h2) hS0 ?r2
  case h2 =>
    go_simp
    rfl
  simp only [Act.put, List.getElem_toArray, List.getElem_cons_succ, List.getElem_cons_zero, List.setIfInBounds_toArray, List.set_cons_zero, List.set_cons_succ]
  refine wpAnyZ_take (i := 2) (v := ?v3) rfl (by kernel_rfl) (fun _ _ _ h => h) (by rfl) (fun W hS => ?h3) hS0 ?r3
  case h3 =>
    go_simp
    rfl
  simp only [Act.put, List.getElem_toArray, List.getElem_cons_succ, List.getElem_cons_zero, List.setIfInBounds_toArray, List.set_cons_zero, List.set_cons_succ]
  refine wpAnyZ_take (i := 3) (v := ?v4) rfl (by kernel_rfl) (fun _ _ _ h => h) (by rfl) (fun W hS => ?h4) hS0 ?r4
  case h4 =>
    go_simp
    rfl
  simp only [Act.put, List.getElem_toArray, List.getElem_cons_succ, List.getElem_cons_zero, List.setIfInBounds_toArray, List.set_cons_zero, List.set_cons_succ]
  refine wpAnyZ_take (i := 4) (v := ?v5) rfl (by kernel_rfl) (fun _ _ _ h => h) (by rfl) (fun W hS => ?h5) hS0 ?r5
  case h5 =>
    have g0 := (Below.cell hS (p := ⟨b, 0, none⟩) hbs).trans n0
    go_simp
    rfl
  simp only [Act.put, List.getElem_toArray, List.getElem_cons_succ, List.getElem_cons_zero, List.setIfInBounds_toArray, List.set_cons_zero, List.set_cons_succ]
  refine wpAnyZ_take (i := 5) (v := ?v6) rfl (by kernel_rfl) (fun _ _ _ h => h) (by rfl) (fun W hS => ?h6) hS0 ?r6
  case h6 =>
    go_simp
    rfl
  simp only [Act.put, List.getElem_toArray, List.getElem_cons_succ, List.getElem_cons_zero, List.setIfInBounds_toArray, List.set_cons_zero, List.set_cons_succ]
  refine wpAnyZ_take (i := 6) (v := ?v7) rfl (by kernel_rfl) (fun _ _ _ h => h) (by rfl) (fun W hS => ?h7) hS0 ?r7
  case h7 =>
    go_simp
    rfl
  simp only [Act.put, List.getElem_toArray, List.getElem_cons_succ, List.getElem_cons_zero, List.setIfInBounds_toArray, List.set_cons_zero, List.set_cons_succ]
  refine wpAnyZ_take (i := 7) (v := ?v8) rfl (by kernel_rfl) (fun _ _ _ h => h) (by rfl) (fun W hS => ?h8) hS0 ?r8
  case h8 =>
    go_simp
    rfl
  simp only [Act.put, List.getElem_toArray, List.getElem_cons_succ, List.getElem_cons_zero, List.setIfInBounds_toArray, List.set_cons_zero, List.set_cons_succ]
  refine wpAnyZ_take (i := 8) (v := ?v9) rfl (by kernel_rfl) (fun _ _ _ h => h) (by rfl) (fun W hS => ?h9) hS0 ?r9
  case h9 =>
    have g1 := (Below.cell hS (p := ⟨b, 1, none⟩) hbs).trans n1
    go_simp
    rfl
  simp only [Act.put, List.getElem_toArray, List.getElem_cons_succ, List.getElem_cons_zero, List.setIfInBounds_toArray, List.set_cons_zero, List.set_cons_succ]
  refine wpAnyZ_take (i := 9) (v := ?v10) rfl (by kernel_rfl) (fun _ _ _ h => h) (by rfl) (fun W hS => ?h10) hS0 ?r10
  case h10 =>
    go_simp
    rfl
  simp only [Act.put, List.getElem_toArray, List.getElem_cons_succ, List.getElem_cons_zero, List.setIfInBounds_toArray, List.set_cons_zero, List.set_cons_succ]
  clear n0 n1
  refine wpAnyZ_ready (rs := [10]) (by kernel_rfl) (by simp) ?_
  refine AllReadyZ.cons (i := 10) rfl (by kernel_rfl) ?x310 AllReadyZ.nil
  intro K hK
  simp only [List.getElem_toArray, List.getElem_cons_succ, List.getElem_cons_zero]
  go_simp
  refine hK.out _ _ (fun _ => ?zs1) (fun _ => ?zr1)
  case zs1 => exact Gr.alloc hS0 _
  clear hK K
  try (simp only [Act.put, List.getElem_toArray, List.getElem_cons_succ, List.getElem_cons_zero, List.setIfInBounds_toArray, List.set_cons_zero, List.set_cons_succ])
  refine wpAnyZ_ready (rs := [11]) (by kernel_rfl) (by simp) ?_
  refine AllReadyZ.cons (i := 11) rfl (by kernel_rfl) ?x311 AllReadyZ.nil
  intro K hK
  simp only [List.getElem_toArray, List.getElem_cons_succ, List.getElem_cons_zero]
  go_simp
  have hB1 := hB.gr hS0
  refine (lays_one hB1 ⟨op, 0, 0, ps⟩ (by omega)).mono ?_
  rintro e w' ⟨rfl, A', k1, k2⟩
  go_wp2_with fail
  refine hK.out _ _ (fun hnz => absurd rfl hnz) (fun _ => ?zr2)
  clear hK K
  try (simp only [Act.put, List.getElem_toArray, List.getElem_cons_succ, List.getElem_cons_zero, List.setIfInBounds_toArray, List.set_cons_zero, List.set_cons_succ])
  refine wpAnyZ_done (by kernel_rfl) ?_ _
  go_wp2
  go_end0
  exact ⟨rfl, A', k1, (WX.gr _ hS0).trans k2⟩

end Go.Proofs.Ytpcmdijgepbilaa
