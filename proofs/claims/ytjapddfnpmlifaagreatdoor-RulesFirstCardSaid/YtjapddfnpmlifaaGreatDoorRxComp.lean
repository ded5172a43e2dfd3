/- The contract of rex.Compile, at expressions of at most 500 bytes. -/
import Derived.Test.YtjapddfnpmlifaaGreatDoorRunRxPutL
import Derived.Test.YtjapddfnpmlifaaGreatDoorRunRuArc2
namespace Go.Proofs.YtjapddfnpmlifaaGreatDoor
set_option linter.unusedVariables false
set_option linter.unusedSimpArgs false
open Go.RowKit

def grpX (s : List UInt8) : Nat := bif errX s == 0 then (readS s).2.groups else 0
def codeY (s : List UInt8) : List In := bif errX s == 0 then codeX s else []
/-- what Compile hands back: the groups, the instructions in memory of their own, the error. -/
def RetC (w : World) (l : List UInt8) (e : Ending) (w' : World) : Prop :=
 ∃ A c, e = .returned (.tuple #[.agg #[.int .i64 (grpX l), .slice A (codeY l).length c], .int .i64 (errX l)]) ∧ Ri w' A (codeY l) ∧ Gr w w' ∧ ∀ ad, A = some ad → ad = ⟨ad.block, 0, none⟩ ∧ w.heap.size ≤ ad.block
theorem rdr_new (w : World) (s : ByteArray) : Rdr (w.alloc (.cells #[.string s, .int .i64 0, .int .i64 0, .int .i64 0, .bool false, .bool false] 156)) w.heap.size s 0 ⟨s.data.toList, 0, 0, false, false⟩ := by
 refine ⟨by simp, rfl, ?_, ?_, ?_, ?_, ?_, ?_, ?_, ?_, ?_, ?_, ?_, ?_⟩
 all_goals go_simp
 all_goals try rfl
theorem wrt_new (w : World) : WrtA (w.alloc (.cells #[.slice none 0 0] 161)) w.heap.size none [] := by
 refine ⟨0, ?_, ?_, World.ownsRow_nil _ _ _ _, by simp⟩
 all_goals go_simp
 all_goals try rfl
theorem Rd.two (w : World) (u v : In) : Rd (w.alloc (.cells #[.int .i64 u.op, .int .i64 u.x, .int .i64 u.y, .string ⟨u.ps.toArray⟩, .int .i64 v.op, .int .i64 v.x, .int .i64 v.y, .string ⟨v.ps.toArray⟩] 163)) 4 (some ⟨w.heap.size, 0, none⟩) 2 (icells [u, v]) := by
 refine ⟨rfl, fun _ => ⟨_, rfl, by simp, fun j x hx => ?_⟩⟩
 have := (World.ownsRow_lit (base := 0) (e := 163) (size := 4) w #[.int .i64 u.op, .int .i64 u.x, .int .i64 u.y, .string ⟨u.ps.toArray⟩, .int .i64 v.op, .int .i64 v.x, .int .i64 v.y, .string ⟨v.ps.toArray⟩] 2 (Nat.zero_le _) (by decide) rfl).cells (g := w.heap.size) rfl j x (by simpa [icells] using hx)
 exact this
theorem lays_two {w : World} {B : Nat} {A : Option Addr} {code : List In} (h : WrtA w B A code) (u v : In) (hb : code.length ≤ 4000) :
  Calls Tryz.prog 80 #[.pointer (some ⟨B, 0, none⟩), .slice (some ⟨w.heap.size, 0, none⟩) 2 2] (w.alloc (.cells #[.int .i64 u.op, .int .i64 u.x, .int .i64 u.y, .string ⟨u.ps.toArray⟩, .int .i64 v.op, .int .i64 v.x, .int .i64 v.y, .string ⟨v.ps.toArray⟩] 163)) fun e w' => e = .returned (.int .i64 code.length) ∧ ∃ A', WrtA w' B A' (code ++ [u, v]) ∧ WX B w (blk A) w' (blk A') := by
 have g := Gr.alloc (Gr.refl w) (.cells #[.int .i64 u.op, .int .i64 u.x, .int .i64 u.y, .string ⟨u.ps.toArray⟩, .int .i64 v.op, .int .i64 v.x, .int .i64 v.y, .string ⟨v.ps.toArray⟩] 163)
 refine (lays_any (h.gr g) _ 2 2 [u, v] rfl (by decide) (Rd.two w u v) (by omega)).mono ?_
 rintro e w' ⟨he, A', h1, h2⟩
 exact ⟨he, A', h1, (WX.gr _ g).trans h2⟩
theorem RetC.err {w w' : World} {l : List UInt8} {n : Int} (h : errX l = n) (hn : (n == 0) = false) (g : Gr w w') : RetC w l (.returned (.tuple #[.agg #[.int .i64 0, .slice none 0 0], .int .i64 n])) w' := by
 refine ⟨none, 0, ?_, ?_, g, fun ad h => by cases h⟩
 ·
  simp [grpX, codeY, h, hn]
 ·
  have : codeY l = [] := by simp [codeY, h, hn]
  rw [this]
  exact Rd.nil _ _ _
theorem WX.gr_new {B : Nat} {w5 w1 w2 : World} {g g2 : Option Nat} (h : WX B w1 g w2 g2) (hw : Gr w5 w1) (hB : w5.heap.size ≤ B) (hg : ∀ k, g = some k → w5.heap.size ≤ k) : Gr w5 w2 :=
 ⟨h.os.trans hw.os, h.tape.trans hw.tape, h.output.trans hw.output, Nat.le_trans hw.size h.size, fun k hk => (h.block k (Nat.lt_of_lt_of_le hk hw.size) (by omega) (fun e => by have := hg k e; omega)).trans (Below.block hw k hk)⟩
theorem lays_first (w : World) : Calls Tryz.prog 80 #[.pointer (some ⟨w.heap.size, 0, none⟩), .slice (some ⟨w.heap.size + 1, 0, none⟩) 1 1] ((w.alloc (.cells #[.slice none 0 0] 161)).alloc (.cells #[.int .i64 4, .int .i64 0, .int .i64 0, .string ⟨#[]⟩] 163)) fun e w' =>
  e = .returned (.int .i64 0) ∧ ∃ A', WrtA w' w.heap.size A' [⟨4, 0, 0, []⟩] ∧ WX w.heap.size (w.alloc (.cells #[.slice none 0 0] 161)) none w' (blk A') := by
 have h := lays_one (wrt_new w) ⟨4, 0, 0, []⟩ (by simp)
 have hz : (w.alloc (.cells #[.slice none 0 0] 161)).heap.size = w.heap.size + 1 := by simp
 rw [hz] at h
 exact h
/-- the reader's contract, where Compile calls it. -/
theorem ways_read (w : World) (s : ByteArray) (hs : s.size ≤ 500) :
  Calls Tryz.prog 79 #[.pointer (some ⟨w.heap.size, 0, none⟩)] (w.alloc (.cells #[.string s, .int .i64 0, .int .i64 0, .int .i64 0, .bool false, .bool false] 156)) fun e w' =>
   ∃ (b n : Nat), e = .returned (.pointer (some ⟨b, 0, none⟩)) ∧ (readS s.data.toList).1.In w.heap.size w'.heap.size w' b ∧ Gr w w' ∧ Rdr w' w.heap.size s n (readS s.data.toList).2 := by
 have hsz : s.data.toList.length = s.size := by simp
 refine (ways_all (by omega) (s.data.toList.length + 1) _ 0 _ (rdr_new w s) (Nat.lt_succ_self _) ⟨by simp only; omega, by simp only; omega⟩).mono ?_
 rintro e w' ⟨b, n, he, h1, h2, h3⟩
 refine ⟨b, n, he, ?_, GX.gr (Gr.alloc (Gr.refl w) _) h2 (Nat.le_refl _), h3⟩
 have e : (w.alloc (.cells #[.string s, .int .i64 0, .int .i64 0, .int .i64 0, .bool false, .bool false] 156)).heap.size - 1 = w.heap.size := by simp
 rw [e] at h1
 exact h1

set_option maxRecDepth 100000 in
set_option maxHeartbeats 3200000 in
theorem comp_over (s : ByteArray) (hs : s.size ≤ 500) (w : World) (hv : (readS s.data.toList).2.over = true) : Calls Tryz.prog 51 #[.string s] w (RetC w s.data.toList) := by
 have HE := Lib.hid (by simp [errX, hv] : errX s.data.toList = 12)
 have hs1 : (s.size : Int) ≤ 500 := by omega
 obtain ⟨q, hq⟩ : ∃ q, q = (readS s.data.toList).2 := ⟨_, rfl⟩
 obtain ⟨p, hp⟩ : ∃ p, p = (readS s.data.toList).1 := ⟨_, rfl⟩
 rw [← hq] at hv
 have Hq := Lib.hid (And.intro hq hp)
 have HW := ways_read (w.alloc (.cells #[.int .i64 0, .slice none 0 0] 71)) s hs
 rw [← hq, ← hp] at HW
 have hzz : (w.alloc (.cells #[.int .i64 0, .slice none 0 0] 71)).heap.size = w.heap.size + 1 := by simp
 rw [hzz] at HW
 clear hzz
 clear hq hp
 go_enter Tryz.func51, Tryz.ntmps51
 go_upto_region 5 with (go_at_call 79; refine HW.mono ?_; rintro e w3 ⟨b, m, rfl, hin, hg3, hR⟩)
 clear HW
 obtain ⟨c0, c1, c2, c4, c5⟩ := And.intro hR.c0 (And.intro hR.c1 (And.intro hR.c2 (And.intro hR.c4 hR.c5)))
 have hrz := hR.lt
 have hrl := hR.len
 have Hin := Lib.hid (And.intro hin hR)
 have hz3 : w.heap.size + 1 ≤ w3.heap.size := by have := hg3.size; simp at this; omega
 have hcb0 : w3.cell? ⟨w.heap.size, 0, none⟩ = some (.int .i64 0) := (hg3.cell (p := ⟨w.heap.size, 0, none⟩) (by simp)).trans (by go_simp)
 have hcb1 : w3.cell? ⟨w.heap.size, 1, none⟩ = some (.slice none 0 0) := (hg3.cell (p := ⟨w.heap.size, 1, none⟩) (by simp)).trans (by go_simp)
 have hfb0 : w3.frozen? ⟨w.heap.size, 0, none⟩ = false := (hg3.frozen (p := ⟨w.heap.size, 0, none⟩) (by simp)).trans (by go_simp)
 have hfb1 : w3.frozen? ⟨w.heap.size, 1, none⟩ = false := (hg3.frozen (p := ⟨w.heap.size, 1, none⟩) (by simp)).trans (by go_simp)
 clear hin hR
 rw [hv] at c5
 have hg9 := hg3
 go_wp2
 refine bodyPost_ret (v := .tuple #[.agg #[.int .i64 0, .slice none 0 0], .int .i64 12]) (by simp [results, Tryz.results51, go_sem, *]) rfl ?_
 exact RetC.err HE.out rfl (((Gr.alloc (Gr.refl w) _).trans hg9).setCell (by simp) _ |>.setCell (by simp) _)

set_option maxRecDepth 100000 in
set_option maxHeartbeats 3200000 in
theorem comp_bad (s : ByteArray) (hs : s.size ≤ 500) (w : World) (hv : (readS s.data.toList).2.over = false) (hb : (readS s.data.toList).2.bad = true) : Calls Tryz.prog 51 #[.string s] w (RetC w s.data.toList) := by
 have HE := Lib.hid (by simp [errX, hv, hb] : errX s.data.toList = 8)
 have hs1 : (s.size : Int) ≤ 500 := by omega
 obtain ⟨q, hq⟩ : ∃ q, q = (readS s.data.toList).2 := ⟨_, rfl⟩
 obtain ⟨p, hp⟩ : ∃ p, p = (readS s.data.toList).1 := ⟨_, rfl⟩
 rw [← hq] at hv hb
 have Hq := Lib.hid (And.intro hq hp)
 have HW := ways_read (w.alloc (.cells #[.int .i64 0, .slice none 0 0] 71)) s hs
 rw [← hq, ← hp] at HW
 have hzz : (w.alloc (.cells #[.int .i64 0, .slice none 0 0] 71)).heap.size = w.heap.size + 1 := by simp
 rw [hzz] at HW
 clear hzz
 clear hq hp
 go_enter Tryz.func51, Tryz.ntmps51
 go_upto_region 5 with (go_at_call 79; refine HW.mono ?_; rintro e w3 ⟨b, m, rfl, hin, hg3, hR⟩)
 clear HW
 obtain ⟨c0, c1, c2, c4, c5⟩ := And.intro hR.c0 (And.intro hR.c1 (And.intro hR.c2 (And.intro hR.c4 hR.c5)))
 have hrz := hR.lt
 have hrl := hR.len
 have Hin := Lib.hid (And.intro hin hR)
 have hz3 : w.heap.size + 1 ≤ w3.heap.size := by have := hg3.size; simp at this; omega
 have hcb0 : w3.cell? ⟨w.heap.size, 0, none⟩ = some (.int .i64 0) := (hg3.cell (p := ⟨w.heap.size, 0, none⟩) (by simp)).trans (by go_simp)
 have hcb1 : w3.cell? ⟨w.heap.size, 1, none⟩ = some (.slice none 0 0) := (hg3.cell (p := ⟨w.heap.size, 1, none⟩) (by simp)).trans (by go_simp)
 have hfb0 : w3.frozen? ⟨w.heap.size, 0, none⟩ = false := (hg3.frozen (p := ⟨w.heap.size, 0, none⟩) (by simp)).trans (by go_simp)
 have hfb1 : w3.frozen? ⟨w.heap.size, 1, none⟩ = false := (hg3.frozen (p := ⟨w.heap.size, 1, none⟩) (by simp)).trans (by go_simp)
 clear hin hR
 rw [hv] at c5
 rw [hb] at c4
 clear hv hb hrl
 go_upto_region 7 with (fail)
 clear c5
 refine region_R (by kernel_rfl) (by kernel_rfl) ?_
 iterate 3 (refine r_val (v := ?_) (by kernel_rfl) (fun W hW => ?_) ?_; rotate_left; (focus go_light; go_simp; rfl); simp only [Pu])
 refine r_val (v := ?qv4) (by kernel_rfl) (fun W hW => ?qh4) ?qr4
 case qh4 => have g1 := (Below.cell hW (p := ⟨w.heap.size + 1, 4, none⟩) hrz).trans c4; go_light; go_simp; rfl
 simp only [Pu]
 refine r_val (v := ?_) (by kernel_rfl) (fun W hW => ?_) ?_; rotate_left; (focus go_light; go_simp; rfl); simp only [Pu]
 iterate 12 (refine r_skip (by kernel_rfl) ?_; simp only [Pu])
 iterate 2 (refine r_val (v := ?_) (by kernel_rfl) (fun W hW => ?_) ?_; rotate_left; (focus go_light; go_simp; rfl); simp only [Pu])
 refine r_nil ?_
 intro w5 hw5
 have c0' := (Below.cell hw5 (p := ⟨w.heap.size + 1, 0, none⟩) hrz).trans c0
 have c2' := (Below.cell hw5 (p := ⟨w.heap.size + 1, 2, none⟩) hrz).trans c2
 have hb0' := (Below.cell hw5 (p := ⟨w.heap.size, 0, none⟩) (by show w.heap.size < _; omega)).trans hcb0
 have hb1' := (Below.cell hw5 (p := ⟨w.heap.size, 1, none⟩) (by show w.heap.size < _; omega)).trans hcb1
 have hf0' := (Below.frozen hw5 (p := ⟨w.heap.size, 0, none⟩) (by show w.heap.size < _; omega)).trans hfb0
 have hf1' := (Below.frozen hw5 (p := ⟨w.heap.size, 1, none⟩) (by show w.heap.size < _; omega)).trans hfb1
 have hg9 := hg3.trans hw5
 have hz5 : w.heap.size + 1 < w5.heap.size := Nat.lt_of_lt_of_le hrz hw5.size
 clear c0 c1 c2 c4 hcb0 hcb1 hfb0 hfb1
 go_wp2
 refine bodyPost_ret (v := .tuple #[.agg #[.int .i64 0, .slice none 0 0], .int .i64 8]) (by simp [results, Tryz.results51, go_sem, *]) rfl ?_
 exact RetC.err HE.out rfl (((Gr.alloc (Gr.refl w) _).trans hg9).setCell (by simp) _ |>.setCell (by simp) _)

set_option maxRecDepth 100000 in
set_option maxHeartbeats 3200000 in
theorem comp_rest (s : ByteArray) (hs : s.size ≤ 500) (w : World) (hv : (readS s.data.toList).2.over = false) (hb : (readS s.data.toList).2.bad = false) (hr : (readS s.data.toList).2.rest ≠ []) : Calls Tryz.prog 51 #[.string s] w (RetC w s.data.toList) := by
 have HE := Lib.hid (by simp [errX, hv, hb, List.isEmpty_eq_false_iff.2 hr] : errX s.data.toList = 8)
 have hs1 : (s.size : Int) ≤ 500 := by omega
 obtain ⟨q, hq⟩ : ∃ q, q = (readS s.data.toList).2 := ⟨_, rfl⟩
 obtain ⟨p, hp⟩ : ∃ p, p = (readS s.data.toList).1 := ⟨_, rfl⟩
 rw [← hq] at hv hb hr
 have Hq := Lib.hid (And.intro hq hp)
 have HW := ways_read (w.alloc (.cells #[.int .i64 0, .slice none 0 0] 71)) s hs
 rw [← hq, ← hp] at HW
 have hzz : (w.alloc (.cells #[.int .i64 0, .slice none 0 0] 71)).heap.size = w.heap.size + 1 := by simp
 rw [hzz] at HW
 clear hzz
 clear hq hp
 go_enter Tryz.func51, Tryz.ntmps51
 go_upto_region 5 with (go_at_call 79; refine HW.mono ?_; rintro e w3 ⟨b, m, rfl, hin, hg3, hR⟩)
 clear HW
 obtain ⟨c0, c1, c2, c4, c5⟩ := And.intro hR.c0 (And.intro hR.c1 (And.intro hR.c2 (And.intro hR.c4 hR.c5)))
 have hrz := hR.lt
 have hrl := hR.len
 have Hin := Lib.hid (And.intro hin hR)
 have hz3 : w.heap.size + 1 ≤ w3.heap.size := by have := hg3.size; simp at this; omega
 have hcb0 : w3.cell? ⟨w.heap.size, 0, none⟩ = some (.int .i64 0) := (hg3.cell (p := ⟨w.heap.size, 0, none⟩) (by simp)).trans (by go_simp)
 have hcb1 : w3.cell? ⟨w.heap.size, 1, none⟩ = some (.slice none 0 0) := (hg3.cell (p := ⟨w.heap.size, 1, none⟩) (by simp)).trans (by go_simp)
 have hfb0 : w3.frozen? ⟨w.heap.size, 0, none⟩ = false := (hg3.frozen (p := ⟨w.heap.size, 0, none⟩) (by simp)).trans (by go_simp)
 have hfb1 : w3.frozen? ⟨w.heap.size, 1, none⟩ = false := (hg3.frozen (p := ⟨w.heap.size, 1, none⟩) (by simp)).trans (by go_simp)
 clear hin hR
 rw [hv] at c5
 rw [hb] at c4
 have hr0 : 0 < q.rest.length := List.length_pos_iff.2 hr
 have hm : decide (m < s.size) = true := by simp; omega
 clear hv hb hrl hr hr0
 go_upto_region 7 with (fail)
 clear c5
 refine region_R (by kernel_rfl) (by kernel_rfl) ?_
 iterate 3 (refine r_val (v := ?_) (by kernel_rfl) (fun W hW => ?_) ?_; rotate_left; (focus go_light; go_simp; rfl); simp only [Pu])
 refine r_val (v := ?qv11) (by kernel_rfl) (fun W hW => ?qh11) ?qr11
 case qh11 => have g1 := (Below.cell hW (p := ⟨w.heap.size + 1, 4, none⟩) hrz).trans c4; go_light; go_simp; rfl
 simp only [Pu]
 iterate 5 (refine r_val (v := ?_) (by kernel_rfl) (fun W hW => ?_) ?_; rotate_left; (focus go_light; go_simp; rfl); simp only [Pu])
 refine r_val (v := ?qv17) (by kernel_rfl) (fun W hW => ?qh17) ?qr17
 case qh17 => have g1 := (Below.cell hW (p := ⟨w.heap.size + 1, 1, none⟩) hrz).trans c1; go_light; go_simp; rfl
 simp only [Pu]
 iterate 4 (refine r_val (v := ?_) (by kernel_rfl) (fun W hW => ?_) ?_; rotate_left; (focus go_light; go_simp; rfl); simp only [Pu])
 refine r_val (v := ?qv22) (by kernel_rfl) (fun W hW => ?qh22) ?qr22
 case qh22 => have g1 := (Below.cell hW (p := ⟨w.heap.size + 1, 0, none⟩) hrz).trans c0; go_light; go_simp; rfl
 simp only [Pu]
 iterate 4 (refine r_val (v := ?_) (by kernel_rfl) (fun W hW => ?_) ?_; rotate_left; (focus go_light; go_simp; rfl); simp only [Pu])
 refine r_nil ?_
 intro w5 hw5
 have c0' := (Below.cell hw5 (p := ⟨w.heap.size + 1, 0, none⟩) hrz).trans c0
 have c2' := (Below.cell hw5 (p := ⟨w.heap.size + 1, 2, none⟩) hrz).trans c2
 have hb0' := (Below.cell hw5 (p := ⟨w.heap.size, 0, none⟩) (by show w.heap.size < _; omega)).trans hcb0
 have hb1' := (Below.cell hw5 (p := ⟨w.heap.size, 1, none⟩) (by show w.heap.size < _; omega)).trans hcb1
 have hf0' := (Below.frozen hw5 (p := ⟨w.heap.size, 0, none⟩) (by show w.heap.size < _; omega)).trans hfb0
 have hf1' := (Below.frozen hw5 (p := ⟨w.heap.size, 1, none⟩) (by show w.heap.size < _; omega)).trans hfb1
 have hg9 := hg3.trans hw5
 have hz5 : w.heap.size + 1 < w5.heap.size := Nat.lt_of_lt_of_le hrz hw5.size
 clear c0 c1 c2 c4 hcb0 hcb1 hfb0 hfb1
 clear hm
 go_wp2
 refine bodyPost_ret (v := .tuple #[.agg #[.int .i64 0, .slice none 0 0], .int .i64 8]) (by simp [results, Tryz.results51, go_sem, *]) rfl ?_
 exact RetC.err HE.out rfl (((Gr.alloc (Gr.refl w) _).trans hg9).setCell (by simp) _ |>.setCell (by simp) _)

set_option maxRecDepth 100000 in
set_option maxHeartbeats 3200000 in
theorem comp_ok (s : ByteArray) (hs : s.size ≤ 500) (w : World) (hv : (readS s.data.toList).2.over = false) (hb : (readS s.data.toList).2.bad = false) (hr : (readS s.data.toList).2.rest = []) : Calls Tryz.prog 51 #[.string s] w (RetC w s.data.toList) := by
 have hE : errX s.data.toList = 0 := by simp [errX, hv, hb, hr]
 have HE := Lib.hid hE
 have hsz := readS_sz (s := s.data.toList) (by simp; exact hs)
 have HG := Lib.hid (And.intro (by simp [grpX, hE] : grpX s.data.toList = (readS s.data.toList).2.groups) (by simp [codeY, hE, codeX] : codeY s.data.toList = ⟨4, 0, 0, []⟩ :: ((readS s.data.toList).1.lay 1 ++ [⟨4, 1, 0, []⟩, ⟨7, 0, 0, []⟩])))
 have hs1 : (s.size : Int) ≤ 500 := by omega
 obtain ⟨q, hq⟩ : ∃ q, q = (readS s.data.toList).2 := ⟨_, rfl⟩
 obtain ⟨p, hp⟩ : ∃ p, p = (readS s.data.toList).1 := ⟨_, rfl⟩
 rw [← hq] at hv hb hr HG
 rw [← hp] at HG hsz
 obtain ⟨hsz1, hsz2⟩ := hsz
 have Hok := Lib.hid hsz2
 clear hE hsz2
 have Hq := Lib.hid (And.intro hq hp)
 have HW := ways_read (w.alloc (.cells #[.int .i64 0, .slice none 0 0] 71)) s hs
 rw [← hq, ← hp] at HW
 have hzz : (w.alloc (.cells #[.int .i64 0, .slice none 0 0] 71)).heap.size = w.heap.size + 1 := by simp
 rw [hzz] at HW
 clear hzz
 clear hq hp
 go_enter Tryz.func51, Tryz.ntmps51
 go_upto_region 5 with (go_at_call 79; refine HW.mono ?_; rintro e w3 ⟨b, m, rfl, hin, hg3, hR⟩)
 clear HW
 obtain ⟨c0, c1, c2, c4, c5⟩ := And.intro hR.c0 (And.intro hR.c1 (And.intro hR.c2 (And.intro hR.c4 hR.c5)))
 have hrz := hR.lt
 have hrl := hR.len
 have Hin := Lib.hid (And.intro hin hR)
 have hz3 : w.heap.size + 1 ≤ w3.heap.size := by have := hg3.size; simp at this; omega
 have hcb0 : w3.cell? ⟨w.heap.size, 0, none⟩ = some (.int .i64 0) := (hg3.cell (p := ⟨w.heap.size, 0, none⟩) (by simp)).trans (by go_simp)
 have hcb1 : w3.cell? ⟨w.heap.size, 1, none⟩ = some (.slice none 0 0) := (hg3.cell (p := ⟨w.heap.size, 1, none⟩) (by simp)).trans (by go_simp)
 have hfb0 : w3.frozen? ⟨w.heap.size, 0, none⟩ = false := (hg3.frozen (p := ⟨w.heap.size, 0, none⟩) (by simp)).trans (by go_simp)
 have hfb1 : w3.frozen? ⟨w.heap.size, 1, none⟩ = false := (hg3.frozen (p := ⟨w.heap.size, 1, none⟩) (by simp)).trans (by go_simp)
 clear hin hR
 rw [hv] at c5
 rw [hb] at c4
 have hm : decide (m < s.size) = false := by rw [hr] at hrl; simp at hrl ⊢; omega
 clear hv hb hrl hr
 go_upto_region 7 with (fail)
 clear c5
 refine region_R (by kernel_rfl) (by kernel_rfl) ?_
 iterate 3 (refine r_val (v := ?_) (by kernel_rfl) (fun W hW => ?_) ?_; rotate_left; (focus go_light; go_simp; rfl); simp only [Pu])
 refine r_val (v := ?qv39) (by kernel_rfl) (fun W hW => ?qh39) ?qr39
 case qh39 => have g1 := (Below.cell hW (p := ⟨w.heap.size + 1, 4, none⟩) hrz).trans c4; go_light; go_simp; rfl
 simp only [Pu]
 iterate 5 (refine r_val (v := ?_) (by kernel_rfl) (fun W hW => ?_) ?_; rotate_left; (focus go_light; go_simp; rfl); simp only [Pu])
 refine r_val (v := ?qv45) (by kernel_rfl) (fun W hW => ?qh45) ?qr45
 case qh45 => have g1 := (Below.cell hW (p := ⟨w.heap.size + 1, 1, none⟩) hrz).trans c1; go_light; go_simp; rfl
 simp only [Pu]
 iterate 4 (refine r_val (v := ?_) (by kernel_rfl) (fun W hW => ?_) ?_; rotate_left; (focus go_light; go_simp; rfl); simp only [Pu])
 refine r_val (v := ?qv50) (by kernel_rfl) (fun W hW => ?qh50) ?qr50
 case qh50 => have g1 := (Below.cell hW (p := ⟨w.heap.size + 1, 0, none⟩) hrz).trans c0; go_light; go_simp; rfl
 simp only [Pu]
 iterate 4 (refine r_val (v := ?_) (by kernel_rfl) (fun W hW => ?_) ?_; rotate_left; (focus go_light; go_simp; rfl); simp only [Pu])
 refine r_nil ?_
 intro w5 hw5
 have c0' := (Below.cell hw5 (p := ⟨w.heap.size + 1, 0, none⟩) hrz).trans c0
 have c2' := (Below.cell hw5 (p := ⟨w.heap.size + 1, 2, none⟩) hrz).trans c2
 have hb0' := (Below.cell hw5 (p := ⟨w.heap.size, 0, none⟩) (by show w.heap.size < _; omega)).trans hcb0
 have hb1' := (Below.cell hw5 (p := ⟨w.heap.size, 1, none⟩) (by show w.heap.size < _; omega)).trans hcb1
 have hf0' := (Below.frozen hw5 (p := ⟨w.heap.size, 0, none⟩) (by show w.heap.size < _; omega)).trans hfb0
 have hf1' := (Below.frozen hw5 (p := ⟨w.heap.size, 1, none⟩) (by show w.heap.size < _; omega)).trans hfb1
 have hg9 := hg3.trans hw5
 have hz5 : w.heap.size + 1 < w5.heap.size := Nat.lt_of_lt_of_le hrz hw5.size
 clear c0 c1 c2 c4 hcb0 hcb1 hfb0 hfb1
 clear hm c0'
 have Hg9 := Lib.hid (And.intro hg9 (And.intro hg3 hw5))
 have hz35 := hw5.size
 clear hg9 hg3 hw5
 go_upto_region 11 with (go_at_call 80; refine (lays_first w5).mono ?_; rintro e w6 ⟨rfl, A6, hB6, hX6⟩)
 obtain ⟨B, hB⟩ : ∃ B, B = w5.heap.size := ⟨_, rfl⟩
 rw [← hB] at hB6 hX6 ⊢
 have hx6 : WX B (w5.alloc (.cells #[.slice none 0 0] 161)) none w6 (blk A6) := hX6
 have hg6 : Gr w5 w6 := hx6.gr_new (Gr.alloc (Gr.refl _) _) (by omega) (fun k h => by cases h)
 have hS6 : Same (w.heap.size + 1) w3.heap.size w3 w6 := (Same.gr Hg9.out.2.2 (Nat.le_refl _)).trans (Same.gr hg6 hz35)
 have HP := put_all p w6 B A6 [⟨4, 0, 0, []⟩] b (w.heap.size + 1) w3.heap.size hB6 (Pc.In.same hS6 _ _ Hin.out.1) (by omega) (by decide) (by simp; omega) Hok.out
 have Hh6 := Lib.hid (And.intro hx6 hB6)
 have HB := Lib.hid hB
 have hB5 : w5.heap.size ≤ B := Nat.le_of_eq hB.symm
 clear hx6 hg6 hS6 hX6 hB6 hB
 go_upto_region 12 with (go_at_call 81; refine HP.mono ?_; rintro e w7 ⟨rfl, A7, hB7, hX7⟩)
 clear HP
 obtain ⟨code7, hc7⟩ : ∃ c : List In, c = [⟨4, 0, 0, []⟩] ++ p.lay ([⟨4, 0, 0, []⟩] : List In).length := ⟨_, rfl⟩
 rw [← hc7] at hB7
 have hl7 : code7.length ≤ 1001 := by rw [hc7, List.length_append, Pc.lay_len]; simp; omega
 have Hc7 := Lib.hid hc7
 clear hc7
 go_upto_region 13 with (go_at_call 80; refine (lays_two hB7 ⟨4, 1, 0, []⟩ ⟨7, 0, 0, []⟩ (by omega)).mono ?_; rintro e w8 ⟨rfl, A8, hB8, hX8⟩)
 obtain ⟨code8, hc8⟩ : ∃ c : List In, c = code7 ++ [⟨4, 1, 0, []⟩, ⟨7, 0, 0, []⟩] := ⟨_, rfl⟩
 rw [← hc8] at hB8
 have hful : decide (1024 < (code8.length : Int)) = false := by rw [hc8]; simp; omega
 have Hc8 := Lib.hid hc8
 have hX := (Hh6.out.1.trans hX7).trans hX8
 have hg8 : Gr w5 w8 := hX.gr_new (Gr.alloc (Gr.refl _) _) (by omega) (fun k h => by cases h)
 have d2 := (hg8.cell (p := ⟨w.heap.size + 1, 2, none⟩) hz5).trans c2'
 have e0 := (hg8.cell (p := ⟨w.heap.size, 0, none⟩) (by show w.heap.size < _; omega)).trans hb0'
 have e1 := (hg8.cell (p := ⟨w.heap.size, 1, none⟩) (by show w.heap.size < _; omega)).trans hb1'
 have f0 := (hg8.frozen (p := ⟨w.heap.size, 0, none⟩) (by show w.heap.size < _; omega)).trans hf0'
 have f1 := (hg8.frozen (p := ⟨w.heap.size, 1, none⟩) (by show w.heap.size < _; omega)).trans hf1'
 have hz8 : w.heap.size + 1 < w8.heap.size := Nat.lt_of_lt_of_le hz5 hg8.size
 have Hg8 := Lib.hid (And.intro hg8 hB8)
 clear hc8 hB7 hX7 hX8 hX hg8 c2' hb0' hb1' hf0' hf1'
 go_upto_region 15 with (go_at_call 82; refine (full_any hB8).mono ?_; rintro e w8' ⟨rfl, rfl⟩)
 clear hful
 obtain ⟨c8, hw8, -⟩ := id hB8
 have hb8 := hB8.lt
 clear hB8
 refine region_T 9 (by kernel_rfl) (by kernel_rfl) ?_
 simp only [List.take]
 iterate 3 (refine q_val (v := ?_) (by rfl) (fun W hW => ?_) ?_; rotate_left; (focus go_simp; rfl); simp only [Pu])
 refine q_val (v := ?qv30) (by rfl) (fun W hW => ?qh30) ?qr30
 case qh30 => have g1 := (Below.cell hW (p := ⟨w.heap.size + 1, 2, none⟩) hz8).trans d2; go_simp; rfl
 simp only [Pu]
 iterate 3 (refine q_val (v := ?_) (by rfl) (fun W hW => ?_) ?_; rotate_left; (focus go_simp; rfl); simp only [Pu])
 refine q_val (v := ?qv34) (by rfl) (fun W hW => ?qh34) ?qr34
 case qh34 => have g1 := (Below.cell hW (p := ⟨B, 0, none⟩) hb8).trans hw8; go_simp; rfl
 simp only [Pu]
 refine q_val (v := ?_) (by rfl) (fun W hW => ?_) ?_; rotate_left; (focus go_simp; rfl); simp only [Pu]
 refine wpQuiet_nil ?_
 intro w9 hw9
 simp only [List.drop]
 have k0 := (Below.cell hw9 (p := ⟨w.heap.size, 0, none⟩) (by show w.heap.size < _; omega)).trans e0
 have k1 := (Below.cell hw9 (p := ⟨w.heap.size, 1, none⟩) (by show w.heap.size < _; omega)).trans e1
 have l0 := (Below.frozen hw9 (p := ⟨w.heap.size, 0, none⟩) (by show w.heap.size < _; omega)).trans f0
 have l1 := (Below.frozen hw9 (p := ⟨w.heap.size, 1, none⟩) (by show w.heap.size < _; omega)).trans f1
 have hz9 : w.heap.size + 1 < w9.heap.size := Nat.lt_of_lt_of_le hz8 hw9.size
 clear d2 e0 e1 f0 f1 hw8
 go_wp2
 refine bodyPost_ret (v := .tuple #[.agg #[.int .i64 q.groups, .slice A8 code8.length c8], .int .i64 0]) (by simp [results, Tryz.results51, go_sem, *]) rfl ?_
 have hcode : code8 = codeY s.data.toList := by rw [Hc8.out, Hc7.out, HG.out.2]; simp
 obtain ⟨hg8, hB8⟩ := Hg8.out
 obtain ⟨c', -, -, own, -⟩ := hB8.gr hw9
 have hgw : Gr w w9 := ((Gr.alloc (Gr.refl w) _).trans Hg9.out.1).trans (hg8.trans hw9)
 refine ⟨A8, c8, ?_, ?_, (hgw.setCell (by simp) _).setCell (by simp) _, fun ad h => ?_⟩
 ·
  rw [HE.out, HG.out.1, hcode]
 ·
  rw [← hcode]
  exact Rd.own (own_setX (own_setX own (p := ⟨w.heap.size, 0, none⟩) (by show w.heap.size < _; omega) _) (p := ⟨w.heap.size, 1, none⟩) (by show w.heap.size < _; omega) _)
 ·
  have h5 := (own.lt ad.block (by rw [h]; rfl)).1
  obtain ⟨g, hg⟩ := hB8.form (by rw [Hc8.out]; simp)
  rw [hg] at h
  injection h with h
  subst h
  exact ⟨rfl, by have h6 : B + 1 ≤ g := h5; show w.heap.size ≤ g; omega⟩
theorem compile_any (s : ByteArray) (hs : s.size ≤ 500) (w : World) : Calls Tryz.prog 51 #[.string s] w (RetC w s.data.toList) := by
 cases hv : (readS s.data.toList).2.over with
 | true => exact comp_over s hs w hv
 | false =>
  cases hb : (readS s.data.toList).2.bad with
  | true => exact comp_bad s hs w hv hb
  | false =>
   by_cases hr : (readS s.data.toList).2.rest = []
   ·
    exact comp_ok s hs w hv hb hr
   ·
    exact comp_rest s hs w hv hb hr
end Go.Proofs.YtjapddfnpmlifaaGreatDoor
