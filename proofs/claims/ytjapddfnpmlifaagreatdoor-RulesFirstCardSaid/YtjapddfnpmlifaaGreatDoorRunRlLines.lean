/- The lines of a text, one by one: strings.Lines and its rounds. · Parse of the program, at texts whose lines are schemas that may be, or remarks. -/
import Derived.Test.YtjapddfnpmlifaaGreatDoorRunRlOne
import Derived.Test.YtjapddfnpmlifaaGreatDoorRunRxText
import Derived.Test.YtjapddfnpmlifaaGreatDoorRunRuSize
import Derived.Test.YtjapddfnpmlifaaGreatDoorRlShelf
import Derived.RangeFuncKeeps
import Derived.RangeFuncLeaves
import Derived.RangeFuncCalls
import Derived.Shelf.Abstract
import Derived.WalkKit
import Derived.OwnWalkIn
import Derived.TacticsInMore
import Derived.LoopNIn
import Derived.LoopIn
import Derived.Lib.Hide
import Derived.Test.YtjapddfnpmlifaaGreatDoorRunRlSch
namespace Go.Proofs.YtjapddfnpmlifaaGreatDoor
set_option linter.unusedVariables false
set_option linter.unusedSimpArgs false
open Go.RowKit Go.Shelf
attribute [local go_sem] Oper.semAt_some

/-- what the region of Lines' round reads. -/
def LnS (B : Nat) (s : ByteArray) (W : World) : Prop := W.cell? ⟨B, 0, none⟩ = some (.string s) ∧ W.frozen? ⟨B, 0, none⟩ = false
def strLen : Option Value → Nat
 | some (.string s) => s.size
 | _ => 0
theorem ext_line (s : ByteArray) (x r : List UInt8) (h : s.data.toList = x ++ 10 :: r) : s.extract 0 (x.length + 1) = ⟨(x ++ [10]).toArray⟩ ∧ s.extract (x.length + 1) s.size = ⟨r.toArray⟩ ∧ x.length + 1 ≤ s.size := by
 have hs : s.size = s.data.toList.length := by simp
 have e1 : x ++ 10 :: r = (x ++ [10]) ++ r := by simp
 refine ⟨?_, ?_, ?_⟩
 ·
  rw [ext_eq, h, List.drop_zero, Nat.sub_zero, e1, List.take_left' (by simp)]
 ·
  rw [ext_eq, h, e1, List.drop_left' (by simp), List.take_of_length_le (by rw [hs, h]; simp; omega)]
 ·
  rw [hs, h]; simp
set_option maxRecDepth 100000 in
set_option maxHeartbeats 3200000 in
theorem lines_walk (l B : Nat) (ls : List (List UInt8)) (J : List (List UInt8) → World → Prop)
  (hJs : ∀ pre W v, J pre W → J pre (W.setCell ⟨B, 0, none⟩ v)) (hJd : ∀ pre W, J pre W → J pre W.drew)
  (hY : ∀ pre x W s, J pre W → (pre ++ [x]) <+: ls → W.cell? ⟨B, 0, none⟩ = some (.string s) → W.frozen? ⟨B, 0, none⟩ = false → YieldAt Fence.wide 0 Tryz.prog l #[.string ⟨x.toArray⟩] W fun e W' =>
   e = .returned (.bool true) ∧ J (pre ++ [x]) W' ∧ W'.cell? ⟨B, 0, none⟩ = some (.string s) ∧ W'.frozen? ⟨B, 0, none⟩ = false)
  (t : ByteArray) (ht : ls = linesS t.data.toList) (hts : (t.size : Int) ≤ 1000000) (W : World) (hc : W.cell? ⟨B, 0, none⟩ = some (.string t)) (hf : W.frozen? ⟨B, 0, none⟩ = false) (h0 : J [] W) :
  CallsIn Fence.wide 1 Tryz.prog 30 #[.func (.yield l) #[] #[], .pointer (some ⟨B, 0, none⟩)] W fun e W' => (∃ v, e = .returned v) ∧ J ls W' := by
 refine callsIn_of_wp Tryz.func30 rfl trivial ?_ rfl
 simp only [Tryz.ntmps30, List.size_toArray, List.length_cons, List.length_nil, Nat.reduceAdd, Nat.reduceSub, Array.replicate_succ, Array.replicate_zero, List.push_toArray, List.append_toArray, List.nil_append, List.cons_append]
 have hK0 : ∃ pre s, ls = pre ++ linesS s.data.toList ∧ (s.size : Int) ≤ 1000000 ∧ LnS B s W ∧ J pre W := ⟨[], t, by rw [ht]; rfl, hts, ⟨hc, hf⟩, h0⟩
 have HK0 := Lib.hid hK0
 have HT := Lib.hid ht
 have HY := Lib.hid hY
 have HJ := Lib.hid (And.intro hJs hJd)
 clear hK0 h0 ht hY hJs hJd hc hf
 gi_wp2
 gi_loopw [] (fun wr => ∃ pre s, ls = pre ++ linesS s.data.toList ∧ (s.size : Int) ≤ 1000000 ∧ LnS B s wr ∧ J pre wr) (fun wr => strLen (wr.cell? ⟨B, 0, none⟩))
 case atStart => exact HK0.out
 case round =>
  clear HK0
  obtain ⟨pre, s, hls, hss, hS, hJ⟩ := hrel
  have hJJ := Lib.hid hJ
  have HL := Lib.hid hls
  have hz : Hid (s.data.toList.length = s.size) := Lib.hid (by simp)
  clear hJ hls
  by_cases he : s.size = 0
  ·
   have hL : Hid (J ls wr) := Lib.hid (by
    have : s.data.toList = [] := List.eq_nil_of_length_eq_zero (by rw [hz.out]; exact he)
    have h := HL.out
    rw [this] at h
    rw [h]
    simpa [linesS] using hJJ.out)
   have c0 := hS.1
   have hei : ¬ (0 : Int) < (s.size : Int) := by omega
   clear hS he
   gi_wp2
   go_end0
   exact ⟨⟨_, rfl⟩, hL.out⟩
  ·
   have hei : (0 : Int) < (s.size : Int) := by omega
   obtain ⟨c0, f0⟩ := id hS
   by_cases h10 : (10 : UInt8) ∈ s.data.toList
   ·
    obtain ⟨x, r, hxr, hx⟩ := split_ten _ h10
    have hix : Lib.indexByte s.data.toList ((10 : Int).toNat.toUInt8) = (x.length : Int) := by rw [hxr]; exact idx_at x r hx
    obtain ⟨e1, e2, hle⟩ := ext_line s x r hxr
    obtain ⟨k, hk⟩ : ∃ k, k = x.length := ⟨_, rfl⟩
    rw [← hk] at hix e1 e2 hle
    have Hlines : Hid (linesS s.data.toList = (x ++ [10]) :: linesS r) := Lib.hid (by rw [hxr]; exact lines_end x r hx)
    have Hk := Lib.hid hk
    have hkl : (k : Int) + 1 ≤ (s.size : Int) := by omega
    have hIB := Tryz.strings_IndexByte s 10
    rw [hix] at hIB
    have HIB := Lib.hid hIB
    have HLn : Hid (ls = pre ++ [x ++ [10]] ++ linesS r) := Lib.hid (by rw [HL.out, Hlines.out]; simp)
    have HPx : Hid ((pre ++ [x ++ [10]]) <+: ls) := Lib.hid ⟨linesS r, HLn.out.symm⟩
    have hrl : Hid (r.length + 1 ≤ s.size) := Lib.hid (by rw [← hz.out, hxr]; simp)
    have HSz : Hid ((((⟨r.toArray⟩ : ByteArray).size : Nat) : Int) ≤ 1000000 ∧ (⟨r.toArray⟩ : ByteArray).size < s.size) := Lib.hid (by
     have e : (⟨r.toArray⟩ : ByteArray).size = r.length := List.size_toArray ..
     have := hrl.out
     rw [e]; omega)
    have c0w := Lib.hid c0
    clear h10 hxr hx hk hix hIB he
    gi_wp2_with (refine ⟨trivial, ?_⟩; gi_at_call 31; refine (callsIn_wide.2 (HIB.out _)).mono ?_; rintro e w1 ⟨rfl, rfl⟩)
    refine wpIn_wide.2 ?_
    have hwk : IntKind.i64.wrap ((k : Int) + 1) = (k : Int) + 1 := IntWalk.i64_in _ (by omega)
    obtain ⟨V, hV⟩ : ∃ V, V = w1.drew := ⟨_, rfl⟩
    have hS0 : LnS B s V := by rw [hV]; exact hS
    have hJV : Hid (J pre V) := Lib.hid (by rw [hV]; exact HJ.out.2 _ _ hJJ.out)
    have HS0 := Lib.hid hS0
    clear c0 f0 hS
    refine wp_region_Z 9 (LnS B s) (by kernel_rfl) ?_
    rw [← hV]
    clear hV
    refine wpAnyZ_take (i := 0) (v := ?v8) rfl (by kernel_rfl) (fun _ _ _ h => h) (by rfl) (fun W hS => ?h8) hS0 ?r8
    case h8 => obtain ⟨s0, -⟩ := hS; go_simp; rfl
    simp only [Act.put, List.getElem_toArray, List.getElem_cons_succ, List.getElem_cons_zero, List.setIfInBounds_toArray, List.set_cons_zero, List.set_cons_succ]
    refine wpAnyZ_take (i := 1) (v := ?v9) rfl (by kernel_rfl) (fun _ _ _ h => h) (by rfl) (fun W hS => ?h9) hS0 ?r9
    case h9 => go_simp; rfl
    simp only [Act.put, List.getElem_toArray, List.getElem_cons_succ, List.getElem_cons_zero, List.setIfInBounds_toArray, List.set_cons_zero, List.set_cons_succ]
    refine wpAnyZ_take (i := 2) (v := ?v10) rfl (by kernel_rfl) (fun _ _ _ h => h) (by rfl) (fun W hS => ?h10) hS0 ?r10
    case h10 => go_simp; rfl
    simp only [Act.put, List.getElem_toArray, List.getElem_cons_succ, List.getElem_cons_zero, List.setIfInBounds_toArray, List.set_cons_zero, List.set_cons_succ]
    refine wpAnyZ_take (i := 3) (v := ?v11) rfl (by kernel_rfl) (fun _ _ _ h => h) (by rfl) (fun W hS => ?h11) hS0 ?r11
    case h11 => go_simp; rfl
    simp only [Act.put, List.getElem_toArray, List.getElem_cons_succ, List.getElem_cons_zero, List.setIfInBounds_toArray, List.set_cons_zero, List.set_cons_succ]
    refine wpAnyZ_take (i := 4) (v := ?v12) rfl (by kernel_rfl) (fun _ _ _ h => h) (by rfl) (fun W hS => ?h12) hS0 ?r12
    case h12 => obtain ⟨s0, -⟩ := hS; go_simp; rfl
    simp only [Act.put, List.getElem_toArray, List.getElem_cons_succ, List.getElem_cons_zero, List.setIfInBounds_toArray, List.set_cons_zero, List.set_cons_succ]
    refine wpAnyZ_take (i := 5) (v := ?v13) rfl (by kernel_rfl) (fun _ _ _ h => h) (by rfl) (fun W hS => ?h13) hS0 ?r13
    case h13 => go_simp; rfl
    simp only [Act.put, List.getElem_toArray, List.getElem_cons_succ, List.getElem_cons_zero, List.setIfInBounds_toArray, List.set_cons_zero, List.set_cons_succ]
    refine wpAnyZ_take (i := 6) (v := ?v14) rfl (by kernel_rfl) (fun _ _ _ h => h) (by rfl) (fun W hS => ?h14) hS0 ?r14
    case h14 => go_simp; rfl
    simp only [Act.put, List.getElem_toArray, List.getElem_cons_succ, List.getElem_cons_zero, List.setIfInBounds_toArray, List.set_cons_zero, List.set_cons_succ]
    refine wpAnyZ_take (i := 7) (v := ?v15) rfl (by kernel_rfl) (fun _ _ _ h => h) (by rfl) (fun W hS => ?h15) hS0 ?r15
    case h15 => go_simp; rfl
    simp only [Act.put, List.getElem_toArray, List.getElem_cons_succ, List.getElem_cons_zero, List.setIfInBounds_toArray, List.set_cons_zero, List.set_cons_succ]
    refine wpAnyZ_take (i := 8) (v := ?v16) rfl (by kernel_rfl) (fun _ _ _ h => h) (by rfl) (fun W hS => ?h16) hS0 ?r16
    case h16 => go_simp; rfl
    simp only [Act.put, List.getElem_toArray, List.getElem_cons_succ, List.getElem_cons_zero, List.setIfInBounds_toArray, List.set_cons_zero, List.set_cons_succ]
    refine wpAnyZ_ready (rs := [9]) (by kernel_rfl) (by simp) ?_
    refine AllReadyZ.cons (i := 9) rfl (by kernel_rfl) ?zx9 AllReadyZ.nil
    intro K hK
    simp only [List.getElem_toArray, List.getElem_cons_succ, List.getElem_cons_zero]
    obtain ⟨s0, s1⟩ := id hS0
    go_simp
    refine hK.out _ _ (fun hnz => ?zs9) (fun _ => ?zr9)
    case zs9 => exact absurd rfl hnz
    clear hK K
    try (simp only [Pu, List.getElem_toArray, List.getElem_cons_succ, List.getElem_cons_zero])
    refine wpAnyZ_done (by kernel_rfl) ?_ _
    have J5 := HJ.out.1 pre V (.string ⟨r.toArray⟩) hJV.out
    have c5 : (V.setCell ⟨B, 0, none⟩ (.string ⟨r.toArray⟩)).cell? ⟨B, 0, none⟩ = some (.string ⟨r.toArray⟩) := World.cell?_setCell_same' _ _ _ (by rw [hS0.1]; rfl)
    have f5 : (V.setCell ⟨B, 0, none⟩ (.string ⟨r.toArray⟩)).frozen? ⟨B, 0, none⟩ = false := by rw [World.frozen?_setCell]; exact hS0.2
    generalize V.setCell ⟨B, 0, none⟩ (.string ⟨r.toArray⟩) = W5 at J5 c5 f5 ⊢
    obtain ⟨fn, tmps, assign, body, hy, hR⟩ := HY.out pre (x ++ [10]) W5 ⟨r.toArray⟩ J5 HPx.out c5 f5
    have C0 := Lib.hid hS0.1
    clear J5 f5 hS0 c5
    gi_wp2
    refine hR.mono ?_
    rintro e W6 ⟨rfl, J6, c6, f6⟩
    have H6 := Lib.hid (And.intro J6 (And.intro c6 f6))
    clear J6 f6 c6
    gi_wp2
    go_roundw
    case rel => exact ⟨pre ++ [(x ++ [10])], ⟨r.toArray⟩, HLn.out, HSz.out.1, ⟨H6.out.2.1, H6.out.2.2⟩, H6.out.1⟩
    case measure => rw [H6.out.2.1, c0w.out]; exact HSz.out.2
   ·
    have hix : Lib.indexByte s.data.toList ((10 : Int).toNat.toUInt8) = -1 := idx_none _ h10
    have Hlines : Hid (linesS s.data.toList = [s.data.toList]) := Lib.hid (by
     cases hl : s.data.toList with
     | nil => exact absurd (by rw [← hz.out, hl]; rfl) he
     | cons c q => exact lines_last c q (by rw [← hl]; exact h10))
    have hIB := Tryz.strings_IndexByte s 10
    rw [hix] at hIB
    have HIB := Lib.hid hIB
    have HLn : Hid (ls = pre ++ [s.data.toList] ++ linesS (⟨#[]⟩ : ByteArray).data.toList) := Lib.hid (by rw [HL.out, Hlines.out]; simp [linesS])
    have HPx : Hid ((pre ++ [s.data.toList]) <+: ls) := Lib.hid ⟨linesS (⟨#[]⟩ : ByteArray).data.toList, HLn.out.symm⟩
    have HSz : Hid ((((⟨#[]⟩ : ByteArray).size : Nat) : Int) ≤ 1000000 ∧ (⟨#[]⟩ : ByteArray).size < s.size) := Lib.hid (by
     have e : (⟨#[]⟩ : ByteArray).size = 0 := rfl
     rw [e]; omega)
    have c0w := Lib.hid c0
    have HX : Hid (∃ fn tmps assign body, (Instr.yield l #[.string s]).run Tryz.prog (wr.setCell ⟨B, 0, none⟩ (.string ⟨#[]⟩)) = .ok (.round l fn tmps assign body) (wr.setCell ⟨B, 0, none⟩ (.string ⟨#[]⟩)) ∧ RoundIn Fence.wide 0 Tryz.prog l fn tmps assign body (wr.setCell ⟨B, 0, none⟩ (.string ⟨#[]⟩)) fun e W' =>
      e = .returned (.bool true) ∧ J (pre ++ [s.data.toList]) W' ∧ W'.cell? ⟨B, 0, none⟩ = some (.string ⟨#[]⟩) ∧ W'.frozen? ⟨B, 0, none⟩ = false) := Lib.hid (by
     have hss0 : (⟨s.data.toList.toArray⟩ : ByteArray) = s := by simp
     have := HY.out pre s.data.toList (wr.setCell ⟨B, 0, none⟩ (.string ⟨#[]⟩)) ⟨#[]⟩ (HJ.out.1 _ _ _ hJJ.out) HPx.out (World.cell?_setCell_same' _ _ _ (by rw [c0]; rfl)) (by rw [World.frozen?_setCell]; exact f0)
     rw [hss0] at this
     exact this)
    obtain ⟨fn, tmps, assign, body, hy, hR⟩ := HX.out
    clear h10 hix hIB he HX
    gi_wp2_with (refine ⟨trivial, ?_⟩; gi_at_call 31; refine (callsIn_wide.2 (HIB.out _)).mono ?_; rintro e w1 ⟨rfl, rfl⟩)
    refine hR.mono ?_
    rintro e W6 ⟨rfl, J6, c6, f6⟩
    have H6 := Lib.hid (And.intro J6 (And.intro c6 f6))
    clear J6 f6 c6
    gi_wp2
    go_roundw
    case rel => exact ⟨pre ++ [s.data.toList], ⟨#[]⟩, HLn.out, HSz.out.1, ⟨H6.out.2.1, H6.out.2.2⟩, H6.out.1⟩
    case measure => rw [H6.out.2.1, c0w.out]; exact HSz.out.2
set_option maxRecDepth 100000 in
set_option maxHeartbeats 3200000 in
theorem lines_new (t : ByteArray) (w : World) : Calls Tryz.prog 17 #[.string t] w fun e w' => e = .returned (.func (.func 30) #[] #[.pointer (some ⟨w.heap.size, 0, none⟩)]) ∧ w' = w.alloc (.cells #[.string t] 9) := by
 go_enter Tryz.func17, Tryz.ntmps17
 go_wp2
 go_ret
 exact ⟨rfl, rfl⟩
/-- how a round's body is left: it has gone on; the loop's own two blocks, the iterator's box lie as they lay. -/
def LnPost (I : List (List UInt8) → World → Prop) (B D : Nat) (xs : List (List UInt8)) (W : World) : Exit → Act → World → Prop
 | .normal, _, W' => I xs W' ∧ W'.heap[D]? = W.heap[D]? ∧ W'.heap[D + 1]? = W.heap[D + 1]? ∧ W'.cell? ⟨B, 0, none⟩ = W.cell? ⟨B, 0, none⟩ ∧ W'.frozen? ⟨B, 0, none⟩ = W.frozen? ⟨B, 0, none⟩
 | _, _, _ => False
theorem cells_put {W : World} {k : Nat} {a : Addr} (o : Obj) (h : a.block ≠ k) : (W.putObj k o).cell? a = W.cell? a ∧ (W.putObj k o).frozen? a = W.frozen? a :=
 ⟨World.cell?_of_block (World.putObj_heap_other h), World.frozen?_of_block (World.putObj_heap_other h)⟩
/-- 'for x := range strings.Lines(t)', whose body never leaves. -/
theorem wp_range_lines {p : Tmp} {assign body : Code} {Q : Exit → Act → World → Prop} {a : Act} {w : World} {g : Operand} {B : Nat} {t : ByteArray}
  (hg : a.eval g = .func (.func 30) #[] #[.pointer (some ⟨B, 0, none⟩)]) (hc : w.cell? ⟨B, 0, none⟩ = some (.string t)) (hf : w.frozen? ⟨B, 0, none⟩ = false) (hB : B < w.heap.size) (hts : (t.size : Int) ≤ 1000000)
  (I : List (List UInt8) → World → Prop) (hIs : ∀ pre W v, I pre W → I pre (W.setCell ⟨B, 0, none⟩ v)) (hId : ∀ pre W, I pre W → I pre W.drew)
  (hIp : ∀ pre W k o', I pre W → (k = w.heap.size ∨ k = w.heap.size + 1) → I pre (W.putObj k o')) (h0 : ∀ o o', I [] ((w.alloc o).alloc o')) (a1 : List UInt8 → Act)
  (hassign : ∀ l x W K, K (a1 x) W → assign.wpIn (Fence.wide.inRound l) 0 Tryz.prog (Exit.then K (fun _ _ _ => False)) { tmps := a.tmps.setIfInBounds p (.string ⟨x.toArray⟩), defers := [] } W)
  (hbody : ∀ l pre x W s, I pre W → (pre ++ [x]) <+: linesS t.data.toList → W.cell? ⟨B, 0, none⟩ = some (.string s) → W.frozen? ⟨B, 0, none⟩ = false → body.wpIn (Fence.wide.inRound l) 0 Tryz.prog (LnPost I B w.heap.size (pre ++ [x]) W) (a1 x) W)
  (hdone : ∀ W, I (linesS t.data.toList) W → W.heap[w.heap.size]? = some (.deferred (some [])) → Q .normal { a with defers := { target := .collected w.heap.size, args := #[] } :: a.defers } W) :
  (Code.rangeFunc g #[p] assign body).wpIn Fence.wide 2 Tryz.prog Q a w := by
 refine wpIn_rangeFunc ?_
 intro fn hfn
 obtain ⟨rec, hrec⟩ : ∃ rec : LoopState → Option Code → Loop, rec = fun st pe => { state := st, pending := pe, fn, tmps := a.tmps, params := #[p], assign, body, defers := w.heap.size } := ⟨_, rfl⟩
 obtain ⟨W1, hW1⟩ : ∃ W1, (w.alloc (.deferred (some []))).alloc (.loop (rec .ready none)) = W1 := ⟨_, rfl⟩
 have gW : Gr w W1 := by rw [← hW1]; exact Gr.alloc (Gr.alloc (Gr.refl w) _) _
 have hL1 : W1.heap[w.heap.size + 1]? = some (.loop (rec .ready none)) := by
  have := World.alloc_heap_new (w.alloc (.deferred (some []))) (.loop (rec .ready none))
  rwa [World.size_alloc, hW1] at this
 have hK1 : W1.heap[w.heap.size]? = some (.deferred (some [])) := by
  rw [← hW1]; exact (Below.heap_alloc _ _ _ (by simp)).trans (World.alloc_heap_new w _)
 have hI1 : I [] W1 := by rw [← hW1]; exact h0 _ _
 refine ⟨w.heap.size + 1, [{ target := .collected w.heap.size, args := #[] }], W1, { target := .fn (.func 30) #[.pointer (some ⟨B, 0, none⟩)], args := #[.func (.yield (w.heap.size + 1)) #[] #[]] }, W1, 30,
  #[.func (.yield (w.heap.size + 1)) #[] #[], .pointer (some ⟨B, 0, none⟩)], W1, ?_, ?_, fun _ _ => trivial, ?_, fun h => (by cases h), ?_⟩
 ·
  rw [← hW1, hrec]; exact run_enterLoop_outer _ _ _ _ _
 ·
  simp only [resolve, hg]
  simp [go_sem]
 ·
  simp [invoke, go_sem, enters_of Tryz.func30 (by kernel_rfl) rfl]
 ·
  have neB : ∀ k, k = w.heap.size ∨ k = w.heap.size + 1 → (⟨B, 0, none⟩ : Addr).block ≠ k := fun k h => by show B ≠ k; omega
  refine (lines_walk (w.heap.size + 1) B (linesS t.data.toList) (fun pre W => I pre W ∧ W.heap[w.heap.size + 1]? = some (.loop (rec .ready none)) ∧ W.heap[w.heap.size]? = some (.deferred (some [])))
   (fun pre W v h => ⟨hIs _ _ _ h.1, (Below.heap_setCell W _ v _ (by show w.heap.size + 1 ≠ B; omega)).trans h.2.1, (Below.heap_setCell W _ v _ (by show w.heap.size ≠ B; omega)).trans h.2.2⟩) (fun pre W h => ⟨hId _ _ h.1, h.2⟩) ?_ t rfl hts W1
   ((Below.cell gW (p := ⟨B, 0, none⟩) hB).trans hc) ((Below.frozen gW (p := ⟨B, 0, none⟩) hB).trans hf) ⟨hI1, hL1, hK1⟩).mono ?_
  ·
   rintro pre x W s ⟨hi, hl, hk⟩ hpx hcs hfs
   have hlt : w.heap.size + 1 < W.heap.size := (Array.getElem?_eq_some_iff.1 hl).1
   have hy := run_yield (P := Tryz.prog) (args := #[.string ⟨x.toArray⟩]) hl (by rw [hrec]; rfl)
   rw [hrec] at hy
   have hy2 : (Instr.yield (w.heap.size + 1) #[.string ⟨x.toArray⟩]).run Tryz.prog W = .ok (.round (w.heap.size + 1) fn (a.tmps.setIfInBounds p (.string ⟨x.toArray⟩)) assign body) W := by rw [hy]; simp
   refine ⟨fn, _, assign, body, hy2, roundIn_of_wpIn trivial (hassign _ x W _ ?_)⟩
   refine ⟨_, run_beginRound hl (by rw [hrec]), ?_⟩
   have hl2 : (W.putObj (w.heap.size + 1) (.loop { rec .ready none with state := .busy })).heap[w.heap.size + 1]? = some (.loop { rec .ready none with state := .busy }) := World.putObj_heap_same hlt
   have hk2 : (W.putObj (w.heap.size + 1) (.loop { rec .ready none with state := .busy })).heap[w.heap.size]? = some (.deferred (some [])) := (World.putObj_heap_other (by omega)).trans hk
   obtain ⟨c1, f1⟩ := cells_put (W := W) (a := ⟨B, 0, none⟩) (.loop { rec .ready none with state := .busy }) (neB _ (.inr rfl))
   refine wpIn_mono (hbody _ pre x _ s (hIp _ _ _ _ hi (.inr rfl)) hpx (c1.trans hcs) (f1.trans hfs)) ?_
   rintro e a3 W3 hp
   cases e with
   | normal =>
    obtain ⟨hi3, hd3, hl3, hc3, hf3⟩ := hp
    have hl3' := hl3.trans hl2
    have := run_endRound (P := Tryz.prog) none hl3'
    obtain ⟨c2, f2⟩ := cells_put (W := W3) (a := ⟨B, 0, none⟩) (.loop (rec .ready none)) (neB _ (.inr rfl))
    refine ⟨_, _, this, rfl, ⟨?_, ?_, ?_⟩, ?_, ?_⟩
    ·
     exact hIp _ _ _ _ hi3 (.inr rfl)
    ·
     rw [hrec]; exact World.putObj_heap_same (Array.getElem?_eq_some_iff.1 hl3').1
    ·
     exact (World.putObj_heap_other (by omega)).trans (hd3.trans hk2)
    ·
     rw [hrec] at c2 ⊢
     exact c2.trans (hc3.trans (c1.trans hcs))
    ·
     rw [hrec] at f2 ⊢
     exact f2.trans (hf3.trans (f1.trans hfs))
   | ret => exact hp.elim
   | exit id => exact hp.elim
   | goto t => exact hp.elim
   | panic ch => exact hp.elim
   | outgrown => exact hp.elim
  ·
   rintro e W2 ⟨⟨v, rfl⟩, hi, hl, hk⟩
   exact ⟨none, _, by have := run_endLoop (P := Tryz.prog) hl (by rw [hrec]; simp); rw [hrec] at this; exact this, hdone _ (hIp _ _ _ _ hi (.inr rfl)) ((World.putObj_heap_other (by omega)).trans hk)⟩
end Go.Proofs.YtjapddfnpmlifaaGreatDoor
namespace Go.Proofs.YtjapddfnpmlifaaGreatDoor
set_option linter.unusedVariables false
set_option linter.unusedSimpArgs false
open Go.RowKit Go.Shelf
attribute [local go_sem] Oper.semAt_some

theorem skip_yes {T : ByteArray} (h : skipS T.data.toList = true) : T = ⟨#[]⟩ ∨ ∃ h0 : (0 : Int) < (T.size : Int), T.toList.isEmpty = false ∧ (T.toList == []) = false ∧ (((T[0]'(by omega)).toNat : Int) == 35) = true := by
 rcases Nat.eq_zero_or_pos T.size with e | h0
 ·
  left
  apply ByteArray.ext; apply Array.eq_empty_of_size_eq_zero; exact e
 ·
  right
  have hl : 0 < T.data.toList.length := by simpa using h0
  have hc : T.data.toList = T[0] :: T.data.toList.drop 1 := by
   have := List.drop_eq_getElem_cons hl
   rwa [List.drop_zero] at this
  have hb : (T[0] == 35) = true := by rw [hc] at h; exact h
  have a1 : T.toList.isEmpty = false := by rw [toList_data_ru]; rw [List.isEmpty_eq_false_iff]; exact ne_nil (by omega)
  have a3 : (T.toList == []) = false := by rw [toList_data_ru, beq_eq_false_iff_ne]; exact ne_nil (by omega)
  have h3 : T[0] = 35 := by simpa using hb
  refine ⟨by omega, a1, a3, ?_⟩
  rw [h3]; rfl
theorem skip_no {T : ByteArray} (h : skipS T.data.toList = false) : ∃ h0 : (0 : Int) < (T.size : Int), T.toList.isEmpty = false ∧ (T.toList == []) = false ∧ (((T[0]'(by omega)).toNat : Int) == 35) = false := by
 rcases Nat.eq_zero_or_pos T.size with e | h0
 ·
  exfalso
  have : T.data.toList = [] := List.eq_nil_of_length_eq_zero (by simpa using e)
  rw [this] at h
  cases h
 ·
  have hl : 0 < T.data.toList.length := by simpa using h0
  have hc : T.data.toList = T[0] :: T.data.toList.drop 1 := by
   have := List.drop_eq_getElem_cons hl
   rwa [List.drop_zero] at this
  have hb : (T[0] == 35) = false := by rw [hc] at h; exact h
  have a1 : T.toList.isEmpty = false := by rw [toList_data_ru]; rw [List.isEmpty_eq_false_iff]; exact ne_nil (by omega)
  have a3 : (T.toList == []) = false := by rw [toList_data_ru, beq_eq_false_iff_ne]; exact ne_nil (by omega)
  refine ⟨by omega, a1, a3, ?_⟩
  rw [beq_eq_false_iff_ne] at hb ⊢
  intro e
  apply hb
  have : T[0].toNat = 35 := by omega
  exact UInt8.toNat_inj.1 this
theorem lines_mem : ∀ {l x : List UInt8}, x ∈ linesS l → x.length ≤ l.length
 | [], x, h => by cases h
 | c :: r, x, h => by
  unfold linesS at h
  cases hc : (c == 10)
  ·
   rw [hc, cond_false] at h
   cases hr : linesS r with
   | nil =>
    rw [hr] at h
    rw [List.mem_singleton.1 h]
    simp
   | cons p m =>
    rw [hr] at h
    rcases List.mem_cons.1 h with h | h
    ·
     have := lines_mem (l := r) (x := p) (by rw [hr]; exact List.mem_cons_self)
     rw [h]
     simpa using this
    ·
     have := lines_mem (l := r) (x := x) (by rw [hr]; exact List.mem_cons_of_mem _ h)
     simp; omega
  ·
   rw [hc, cond_true] at h
   rcases List.mem_cons.1 h with h | h
   ·
    rw [h]; simp
   ·
    have := lines_mem (l := r) (x := x) h
    simp; omega
/-- what is done with a line: nothing, or a row. -/
structure LineF (F : List UInt8 → Option (ByteArray × List (Nat × Nat))) (x : List UInt8) : Prop where
 no : F x = none → skipS (trimS x) = true
 yes : ∀ p ar, F x = some (p, ar) → skipS (trimS x) = false ∧ ∃ y, GoodL (trimS x) p y ar
def RetPa (w : World) (rows : List (ByteArray × List (Nat × Nat))) (e : Ending) (w' : World) : Prop :=
 ∃ R B0 A c l, e = .returned (.tuple #[.pointer (some ⟨R, 0, none⟩), .int .i64 0]) ∧ RsM w R B0 w' l (.slice A l.length c) ∧ l.map (fun s => (s.pat, s.ar)) = rows
/-- what Parse has laid, lines having come. -/
structure PaI (w : World) (F : List UInt8 → Option (ByteArray × List (Nat × Nat))) (pre : List (List UInt8)) (W : World) : Prop where
 ex : ∃ l A c, l.map (fun s => (s.pat, s.ar)) = pre.filterMap F ∧ RsM w (w.heap.size + 1 + 1) (w.heap.size + 7) W l (.slice A l.length c)
 rp : W.cell? ⟨w.heap.size + 1 + 1 + 1, 0, none⟩ = some (.pointer (some ⟨w.heap.size + 1 + 1, 0, none⟩))
 r0 : W.cell? ⟨w.heap.size, 0, none⟩ = some (.pointer none) ∧ W.frozen? ⟨w.heap.size, 0, none⟩ = false
 r1 : W.cell? ⟨w.heap.size + 1, 0, none⟩ = some (.int .i64 0) ∧ W.frozen? ⟨w.heap.size + 1, 0, none⟩ = false
 ml : Ml W
theorem PaI.keep {w W W' : World} {F : List UInt8 → Option (ByteArray × List (Nat × Nat))} {pre pre' : List (List UInt8)} (h : PaI w F pre W) (h0 : W'.heap[w.heap.size]? = W.heap[w.heap.size]?) (h1 : W'.heap[w.heap.size + 1]? = W.heap[w.heap.size + 1]?) (h3 : W'.heap[w.heap.size + 1 + 1 + 1]? = W.heap[w.heap.size + 1 + 1 + 1]?) (hm : Ml W')
  (ex : ∃ l A c, l.map (fun s => (s.pat, s.ar)) = pre'.filterMap F ∧ RsM w (w.heap.size + 1 + 1) (w.heap.size + 7) W' l (.slice A l.length c)) : PaI w F pre' W' :=
 ⟨ex, (World.cell?_of_block (a := ⟨w.heap.size + 1 + 1 + 1, 0, none⟩) h3).trans h.rp, ⟨(World.cell?_of_block (a := ⟨w.heap.size, 0, none⟩) h0).trans h.r0.1, (World.frozen?_of_block (a := ⟨w.heap.size, 0, none⟩) h0).trans h.r0.2⟩, ⟨(World.cell?_of_block (a := ⟨w.heap.size + 1, 0, none⟩) h1).trans h.r1.1, (World.frozen?_of_block (a := ⟨w.heap.size + 1, 0, none⟩) h1).trans h.r1.2⟩, hm⟩
theorem PaI.lt {w W : World} {F : List UInt8 → Option (ByteArray × List (Nat × Nat))} {pre : List (List UInt8)} (h : PaI w F pre W) : w.heap.size + 7 ≤ W.heap.size := by
 obtain ⟨l, A, c, -, hR⟩ := h.ex
 exact hR.sz
theorem PaI.gr {w W W' : World} {F : List UInt8 → Option (ByteArray × List (Nat × Nat))} {pre : List (List UInt8)} (h : PaI w F pre W) (g : Gr W W') : PaI w F pre W' := by
 have hz := h.lt
 obtain ⟨l, A, c, e, hR⟩ := h.ex
 exact h.keep (Below.block g _ (by omega)) (Below.block g _ (by omega)) (Below.block g _ (by omega)) (h.ml.gr g) ⟨l, A, c, e, hR.gr' g⟩
theorem ml_of {w W W' : World} (h : Ml w) (g : Gr w W') : Ml W' := h.gr g
theorem ml_lt {w : World} (h : Ml w) : 0 < w.heap.size := by
 obtain ⟨m, hm⟩ := h
 rcases Nat.lt_or_ge 0 w.heap.size with h | h
 ·
  exact h
 ·
  unfold World.cell? at hm
  rw [Array.getElem?_eq_none h] at hm
  cases hm
theorem PaI.other {w W W' : World} {F : List UInt8 → Option (ByteArray × List (Nat × Nat))} {pre : List (List UInt8)} {k : Nat} (h : PaI w F pre W) (hm : Ml w) (g : W.grownBy W' (some k)) (h4 : w.heap.size + 4 ≤ k) (h7 : k < w.heap.size + 7) : PaI w F pre W' := by
 have hz := h.lt
 have ne : ∀ j, j < w.heap.size + 4 → some j ≠ some k := fun j hj e => by injection e with e; omega
 obtain ⟨l, A, c, e, hR⟩ := h.ex
 have hR' := hR.other g (by omega) (by omega) h7
 exact h.keep (g.block _ (by omega) (ne _ (by omega))) (g.block _ (by omega) (ne _ (by omega))) (g.block _ (by omega) (ne _ (by omega))) (hm.gr hR'.gr) ⟨l, A, c, e, hR'⟩
set_option maxRecDepth 100000 in
set_option maxHeartbeats 6400000 in
theorem parse_any (F : List UInt8 → Option (ByteArray × List (Nat × Nat))) (t : ByteArray) (ht : (t.size : Int) ≤ 1000) (hF : ∀ x ∈ linesS t.data.toList, LineF F x) (h64 : (((linesS t.data.toList).filterMap F).length : Int) ≤ 64) (w : World) (hm : Ml w) :
  Calls Tryz.prog 6 #[.string t] w (RetPa w ((linesS t.data.toList).filterMap F)) := by
 refine (callsIn_wide (n := 2)).1 ?_
 refine callsIn_of_wp_marks Tryz.func6 rfl trivial ?_ rfl
 simp only [Tryz.ntmps6, List.size_toArray, List.length_cons, List.length_nil, Nat.reduceAdd, Nat.reduceSub, Array.replicate_succ, Array.replicate_zero, List.push_toArray, List.append_toArray, List.nil_append, List.cons_append]
 have HM := Lib.hid hm
 have HF := Lib.hid hF
 have H64 := Lib.hid h64
 clear hm hF h64
 gi_wp2_with (refine ⟨trivial, ?_⟩; gi_at_call 17; refine (callsIn_wide.2 (lines_new _ _)).mono ?_; rintro e w1 ⟨rfl, rfl⟩)
 obtain ⟨w0, hw0⟩ : ∃ w0, w0 = (((((w.alloc (.cells #[.pointer none] 23)).alloc (.cells #[.int .i64 0] 24)).alloc (.cells #[.slice none 0 0, .slice none 0 0] 62)).alloc (.cells #[.pointer (some ⟨w.heap.size + 1 + 1, 0, none⟩)] 23)).alloc (.cells #[.string t] 9)) := ⟨_, rfl⟩
 have hz0 : w0.heap.size = w.heap.size + 5 := by rw [hw0]; simp
 have g0 : Gr w w0 := by rw [hw0]; exact ((((Gr.refl w).alloc _).alloc _).alloc _).alloc _ |>.alloc _
 have cB : w0.cell? ⟨w.heap.size + 1 + 1 + 1 + 1, 0, none⟩ = some (.string t) := by rw [hw0]; go_simp
 have fB : w0.frozen? ⟨w.heap.size + 1 + 1 + 1 + 1, 0, none⟩ = false := by rw [hw0]; go_simp
 have k0 : w0.cell? ⟨w.heap.size, 0, none⟩ = some (.pointer none) := by rw [hw0]; go_simp
 have k1 : w0.cell? ⟨w.heap.size + 1, 0, none⟩ = some (.int .i64 0) := by rw [hw0]; go_simp
 have k2 : w0.cell? ⟨w.heap.size + 1 + 1, 0, none⟩ = some (.slice none 0 0) := by rw [hw0]; go_simp
 have k3 : w0.cell? ⟨w.heap.size + 1 + 1, 1, none⟩ = some (.slice none 0 0) := by rw [hw0]; go_simp
 have k4 : w0.cell? ⟨w.heap.size + 1 + 1 + 1, 0, none⟩ = some (.pointer (some ⟨w.heap.size + 1 + 1, 0, none⟩)) := by rw [hw0]; go_simp
 have f0 : w0.frozen? ⟨w.heap.size, 0, none⟩ = false := by rw [hw0]; go_simp
 have f1 : w0.frozen? ⟨w.heap.size + 1, 0, none⟩ = false := by rw [hw0]; go_simp
 have f2 : w0.frozen? ⟨w.heap.size + 1 + 1, 0, none⟩ = false := by rw [hw0]; go_simp
 have f3 : w0.frozen? ⟨w.heap.size + 1 + 1, 1, none⟩ = false := by rw [hw0]; go_simp
 rw [← hw0]
 have hbs : w0.heap.size = w.heap.size + 5 := hz0
 have HSt : ∀ o o', PaI w F [] ((w0.alloc o).alloc o') := fun o o' => by
  have g2 : Gr w0 ((w0.alloc o).alloc o') := Gr.alloc (Gr.alloc (Gr.refl w0) _) _
  have cc : ∀ b j, b < w.heap.size + 5 → ((w0.alloc o).alloc o').cell? ⟨b, j, none⟩ = w0.cell? ⟨b, j, none⟩ := fun b j hb => Below.cell g2 (p := ⟨b, j, none⟩) (by show b < _; omega)
  have ff : ∀ b j, b < w.heap.size + 5 → ((w0.alloc o).alloc o').frozen? ⟨b, j, none⟩ = w0.frozen? ⟨b, j, none⟩ := fun b j hb => Below.frozen g2 (p := ⟨b, j, none⟩) (by show b < _; omega)
  refine ⟨⟨[], none, 0, rfl, ⟨g0.trans g2, by omega, by omega, by simp; omega, (cc _ _ (by omega)).trans k2, (cc _ _ (by omega)).trans k3, (ff _ _ (by omega)).trans f2, (ff _ _ (by omega)).trans f3, World.ownsRow_nil _ _ _ _, fun s hs => by cases hs⟩⟩, (cc _ _ (by omega)).trans k4, ⟨(cc _ _ (by omega)).trans k0, (ff _ _ (by omega)).trans f0⟩, ⟨(cc _ _ (by omega)).trans k1, (ff _ _ (by omega)).trans f1⟩, HM.out.gr (g0.trans g2)⟩
 refine wp_range_lines (B := w.heap.size + 1 + 1 + 1 + 1) (t := t) rfl cB fB (by omega) (by omega) (PaI w F)
  (fun pre W v hI => hI.other (k := w.heap.size + 1 + 1 + 1 + 1) HM.out ⟨rfl, rfl, rfl, by simp, fun k hk hne => Below.heap_setCell _ _ _ k (fun e => hne (by rw [e]))⟩ (by omega) (by omega))
  (fun pre W hI => hI.gr (Gr.drew (Gr.refl W)))
  (fun pre W k o' hI hk => hI.other HM.out (grownBy_putObj' W k o') (by omega) (by omega)) HSt
  (fun x => ⟨#[.string t, undef, .pointer (some ⟨w.heap.size, 0, none⟩), .pointer (some ⟨w.heap.size + 1, 0, none⟩), .pointer (some ⟨w.heap.size + 1 + 1 + 1, 0, none⟩), .string ⟨x.toArray⟩, undef, .agg #[.slice none 0 0, .slice none 0 0], .pointer (some ⟨w.heap.size + 1 + 1, 0, none⟩), .string t, .func (.func 30) #[] #[.pointer (some ⟨w.heap.size + 1 + 1 + 1 + 1, 0, none⟩)], .string ⟨x.toArray⟩, undef, undef, undef, undef, undef, undef, undef, undef, undef, undef, undef, undef, undef, undef, undef, undef, undef, undef, undef, undef, undef, undef, undef, undef, undef, undef, undef, undef, undef, undef, undef, undef], []⟩) ?assign ?body ?done
 case assign =>
  clear HSt k0 k1 k2 k3 k4 f0 f1 f2 f3 cB fB hw0
  intro l x W K hK
  gi_wp2
  exact hK
 case body =>
  clear HSt k0 k1 k2 k3 k4 f0 f1 f2 f3 cB fB hw0
  intro l pre x W s hI hpx hcs hfs
  obtain ⟨T, hT⟩ : ∃ T : ByteArray, T = ⟨(trimS x).toArray⟩ := ⟨_, rfl⟩
  have hTl : T.data.toList = trimS x := by rw [hT]
  have HTS := Tryz.strings_TrimSuffix ⟨x.toArray⟩ ⟨#[10]⟩
  have eT : (⟨(Lib.trimSuffix (⟨x.toArray⟩ : ByteArray).data.toList (⟨#[10]⟩ : ByteArray).data.toList).toArray⟩ : ByteArray) = T := by rw [hT]; rfl
  rw [eT] at HTS
  have HI := Lib.hid hI
  have hz := hI.lt
  have hmem : x ∈ linesS t.data.toList := hpx.subset (by simp)
  have hxl : x.length ≤ t.size := lines_mem hmem
  have HLF := HF.out x hmem
  have HTT := Lib.hid (fun w => (HTS w (by show x.toArray.size ≤ _; rw [List.size_toArray]; omega)).mono (R' := fun e w' => e = .returned (.string T) ∧ w = w') fun e w' h => ⟨h.1, h.2.symm⟩)
  have HB := Lib.hid (And.intro hcs hfs)
  clear HTS eT hI hcs hfs hT
  cases hFx : F x with
  | none =>
   have hfm : (pre ++ [x]).filterMap F = pre.filterMap F := by simp [hFx]
   have HP : Hid (PaI w F (pre ++ [x]) W) := Lib.hid (by
    obtain ⟨l, A, c, e, hR⟩ := HI.out.ex
    exact HI.out.keep rfl rfl rfl HI.out.ml ⟨l, A, c, by rw [hfm]; exact e, hR⟩)
   have hsk := HLF.no hFx
   rw [← hTl] at hsk
   clear hfm hTl HLF hFx
   rcases skip_yes hsk with rfl | ⟨t0, t1, t2, t3⟩
   ·
    clear hsk
    gi_wp2_with (refine ⟨trivial, rfl, ?_⟩; gi_at_call 18; refine (CallsIn.inRound l (callsIn_wide.2 (HTT.out _))).mono ?_; rintro e w1 ⟨rfl, rfl⟩)
    exact ⟨HP.out, rfl, rfl, rfl, rfl⟩
   ·
    clear hsk
    gi_wp2_with (refine ⟨trivial, rfl, ?_⟩; gi_at_call 18; refine (CallsIn.inRound l (callsIn_wide.2 (HTT.out _))).mono ?_; rintro e w1 ⟨rfl, rfl⟩)
    exact ⟨HP.out, rfl, rfl, rfl, rfl⟩
  | some pa =>
   obtain ⟨p, ar⟩ := pa
   obtain ⟨hsk, y, hgd⟩ := HLF.yes p ar hFx
   have hfm : (pre ++ [x]).filterMap F = pre.filterMap F ++ [(p, ar)] := by simp [hFx]
   obtain ⟨rows, A, c, e, hR⟩ := HI.out.ex
   rw [← hTl] at hsk hgd
   obtain ⟨t0, t1, t2, t3⟩ := skip_no hsk
   have hle : rows.length ≤ 1000 := by
    have h1 : rows.length = (pre.filterMap F).length := by rw [← e, List.length_map]
    have h2 := List.length_filterMap_le F pre
    have h3 := hpx.length_le
    have h4 := lines_len t.data.toList
    have h5 : t.data.toList.length = t.size := by simp
    simp only [List.length_append, List.length_singleton] at h3
    omega
   have hTs : (T.size : Int) ≤ 4096 := by
    have h1 : T.size = (trimS x).length := by rw [← hTl]; simp
    have h2 : (trimS x).length ≤ x.length := Lib.trimSuffix_le x [10]
    omega
   have HLN := Lib.hid (line_any hR T p y ar hgd hTs hle HI.out.ml)
   have HR := Lib.hid hR
   have HE := Lib.hid (And.intro e hfm)
   have c4 := HI.out.rp
   clear hsk hgd hTl HLF hFx hfm e hR hle hTs
   gi_wp2_with (first | (refine ⟨trivial, rfl, ?_⟩; gi_at_call 18; refine (CallsIn.inRound l (callsIn_wide.2 (HTT.out _))).mono ?_; rintro e w1 ⟨rfl, rfl⟩) | (refine ⟨trivial, rfl, ?_⟩; gi_at_call 19; refine (CallsIn.inRound l (callsIn_wide.2 HLN.out)).mono ?_; rintro e w2 ⟨rfl, A', c', s', q1, q2, q3, q4⟩; have Q := Lib.hid (And.intro q1 (And.intro q2 (And.intro q3 q4))); clear q1 q2 q3 q4))
   obtain ⟨q1, q2, q3, q4⟩ := Q.out
   have hvl := HR.out.own.lt
   have bl : ∀ k, k < w.heap.size + 7 → k ≠ w.heap.size + 1 + 1 → w2.heap[k]? = W.heap[k]? := fun k hk hne => q4.block k (by omega) hne (fun e => by have := (hvl k (by rw [own_blk]; exact e)).1; omega)
   refine ⟨HI.out.keep (bl _ (by omega) (by omega)) (bl _ (by omega) (by omega)) (bl _ (by omega) (by omega)) (HM.out.gr q3.gr) ⟨_, A', c', ?_, q3⟩, bl _ (by omega) (by omega), bl _ (by omega) (by omega), World.cell?_of_block (a := ⟨w.heap.size + 1 + 1 + 1 + 1, 0, none⟩) (bl (w.heap.size + 1 + 1 + 1 + 1) (by omega) (by omega)), World.frozen?_of_block (a := ⟨w.heap.size + 1 + 1 + 1 + 1, 0, none⟩) (bl (w.heap.size + 1 + 1 + 1 + 1) (by omega) (by omega))⟩
   rw [HE.out.2, List.map_append, HE.out.1, List.map_singleton, q1, q2]
 case done =>
  clear HSt k0 k1 k2 k3 k4 f0 f1 f2 f3 cB fB hw0
  intro W hI hK
  have HI := Lib.hid hI
  have hz := hI.lt
  obtain ⟨rows, A, c, e, hR⟩ := hI.ex
  have hll : rows.length = ((linesS t.data.toList).filterMap F).length := by rw [← e, List.length_map]
  have hl64 : ¬ (64 : Int) < (rows.length : Int) := by have := H64.out; omega
  obtain ⟨k0, f0⟩ := hI.r0
  obtain ⟨k1, f1⟩ := hI.r1
  have k4 := hI.rp
  have k2 := hR.c0
  have k3 := hR.c1
  have HR := Lib.hid hR
  have HE := Lib.hid e
  have HK := Lib.hid hK
  clear hI hll e hR hK
  gi_wp2
  have hK2 : ((W.setCell ⟨w.heap.size, 0, none⟩ (.pointer (some ⟨w.heap.size + 1 + 1, 0, none⟩))).setCell ⟨w.heap.size + 1, 0, none⟩ (.int .i64 0)).heap[w.heap.size + 5]? = some (.deferred (some [])) :=
   (Below.heap_setCell _ ⟨w.heap.size + 1, 0, none⟩ _ (w.heap.size + 5) (by show w.heap.size + 5 ≠ w.heap.size + 1; omega)).trans ((Below.heap_setCell W ⟨w.heap.size, 0, none⟩ _ (w.heap.size + 5) (by show w.heap.size + 5 ≠ w.heap.size; omega)).trans (by rw [← hz0]; exact HK.out))
  refine ⟨by simp, .inl ⟨_, _, rfl, run_takeDeferred hK2, ?_⟩⟩
  obtain ⟨W5, hW5⟩ : ∃ W5, W5 = (W.setCell ⟨w.heap.size, 0, none⟩ (.pointer (some ⟨w.heap.size + 1 + 1, 0, none⟩))).setCell ⟨w.heap.size + 1, 0, none⟩ (.int .i64 0) := ⟨_, rfl⟩
  have gr1 : W.grownBy (W.setCell ⟨w.heap.size, 0, none⟩ (.pointer (some ⟨w.heap.size + 1 + 1, 0, none⟩))) (some (w.heap.size)) := ⟨rfl, rfl, rfl, by simp, fun k hk hne => Below.heap_setCell _ _ _ k (fun e => hne (by rw [e]))⟩
  have gr2 : (W.setCell ⟨w.heap.size, 0, none⟩ (.pointer (some ⟨w.heap.size + 1 + 1, 0, none⟩))).grownBy W5 (some (w.heap.size + 1)) := by rw [hW5]; exact ⟨rfl, rfl, rfl, by simp, fun k hk hne => Below.heap_setCell _ _ _ k (fun e => hne (by rw [e]))⟩
  have q0 : W5.cell? ⟨w.heap.size, 0, none⟩ = some (.pointer (some ⟨w.heap.size + 1 + 1, 0, none⟩)) := by rw [hW5]; go_simp
  have q1 : W5.cell? ⟨w.heap.size + 1, 0, none⟩ = some (.int .i64 0) := by rw [hW5]; go_simp
  have hR5 := ((HR.out.other gr1 (by omega) (by omega) (by omega)).other gr2 (by omega) (by omega) (by omega)).other (grownBy_putObj' W5 (w.heap.size + 5) (.deferred none)) (by omega) (by omega) (by omega)
  have q0' := (cells_put (W := W5) (k := w.heap.size + 5) (a := ⟨w.heap.size, 0, none⟩) (.deferred none) (by show w.heap.size ≠ w.heap.size + 5; omega)).1.trans q0
  have q1' := (cells_put (W := W5) (k := w.heap.size + 5) (a := ⟨w.heap.size + 1, 0, none⟩) (.deferred none) (by show w.heap.size + 1 ≠ w.heap.size + 5; omega)).1.trans q1
  rw [← hW5]
  generalize W5.putObj (w.heap.size + 5) (.deferred none) = W6 at hR5 q0' q1' ⊢
  refine ⟨.tuple #[.pointer (some ⟨w.heap.size + 1 + 1, 0, none⟩), .int .i64 0], ?_, w.heap.size + 1 + 1, w.heap.size + 7, A, c, rows, rfl, hR5, HE.out⟩
  simp [results, Tryz.results6, go_sem, q0', q1']
end Go.Proofs.YtjapddfnpmlifaaGreatDoor
