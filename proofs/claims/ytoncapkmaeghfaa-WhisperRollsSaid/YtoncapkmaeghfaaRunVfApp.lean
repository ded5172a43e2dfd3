/- applies, of a change that creates, at the name "a". · applies, of a change that writes, at the name "a". · Contracts of chapter 1's small functions, of the program's package fixed and of the reference: each walked once. -/
import Derived.Test.YtoncapkmaeghfaaRunWhOff
import Derived.Laws.CopyOwn
import Derived.Test.YtoncapkmaeghfaaProg
import Derived.Test.YtoncapkmaeghfaaRunFxBase
import Derived.Deep.RegionHeld3
namespace Go.Proofs.Ytoncapkmaeghfaa
set_option linter.unusedVariables false
set_option linter.unusedSimpArgs false
open Go.RowKit Go.ChangeMaps Go.Maps

theorem Kp.blk {S : Nat → Prop} {w w' : World} {M : Nat} {o' : Obj} (h : Kp S w w') (hb : w'.heap[M]? = some o') (hM : S M ∨ w.heap.size ≤ M) (o : Obj) : Kp S w (setBlock w' M o) :=
 ⟨h.os, h.tape, h.output, Nat.le_trans h.size (by simp [setBlock]), fun k hk hn => (show (setBlock w' M o).heap[k]? = w'.heap[k]? from by
  unfold setBlock
  rw [Array.getElem?_setIfInBounds_ne (fun e => by
   rcases hM with h1 | h1
   ·
    exact hn (e ▸ h1)
   ·
    omega)]).trans (h.block k hk hn)⟩
theorem FsM.upd {w : World} {Y : Nat → Prop} {F P M : Nat} {R : Option Nat} {room : Int} {n : Nat} {D : Option (List UInt8)} (h : FsM Y w F P M R room n D) {l : List UInt8} {g c : Nat} (hc : l.length ≤ c) (hr : Rb w (some ⟨g, 0, none⟩) l) (hg : g < w.heap.size) (hq : g ≠ P ∧ g ≠ M ∧ R ≠ some g ∧ ¬ Y g) (clk born : Nat) :
  FsM Y (setBlock w M (.map #[⟨.string nmA, .slice (some ⟨g, 0, none⟩) l.length c, born⟩] clk)) F P M R room n (some l) ∧ Kp (fun k => k = M) w (setBlock w M (.map #[⟨.string nmA, .slice (some ⟨g, 0, none⟩) l.length c, born⟩] clk)) := by
 obtain ⟨o', hb⟩ : ∃ o', w.heap[M]? = some o' := ⟨_, Array.getElem?_eq_getElem h.lm⟩
 have k : Kp (fun k => k = M) w (setBlock w M (.map #[⟨.string nmA, .slice (some ⟨g, 0, none⟩) l.length c, born⟩] clk)) := (Kp.refl (fun k => k = M) _).blk hb (.inl (show M = M from rfl)) _
 obtain ⟨v, xs, v1, v2, v3⟩ := h.p0
 obtain ⟨y, hy⟩ := h.p1
 refine ⟨⟨Nat.lt_of_lt_of_le h.lf k.size, Nat.lt_of_lt_of_le h.lp k.size, Nat.lt_of_lt_of_le h.lm k.size, h.nfp, h.nfm, h.npm, (k.cell (a := ⟨F, 0, none⟩) h.lf h.nfm).trans h.f0, (k.cell (a := ⟨F, 1, none⟩) h.lf h.nfm).trans h.f1, (k.cell (a := ⟨F, 2, none⟩) h.lf h.nfm).trans h.f2,
  ⟨v, xs, (k.cell (a := ⟨P, 0, none⟩) h.lp h.npm).trans v1, v2, k.own v3 (fun i hi => (h.rr i (by rw [← v2]; exact hi)).2.2)⟩, ⟨y, (k.cell (a := ⟨P, 1, none⟩) h.lp h.npm).trans hy⟩, (k.frozen (a := ⟨P, 0, none⟩) h.lp h.npm).trans h.z0, (k.frozen (a := ⟨P, 1, none⟩) h.lp h.npm).trans h.z1, h.rr, fun i hi => Nat.lt_of_lt_of_le (h.yl i hi) k.size, ?_⟩, k⟩
 refine ⟨clk, born, g, c, ?_, hc, k.rd hr (fun _ ad e => by injection e with e; rw [← e]; exact hq.2.1), Nat.lt_of_lt_of_le hg k.size, hq⟩
 unfold setBlock
 rw [Array.getElem?_setIfInBounds_self_of_lt h.lm]
set_option maxRecDepth 100000 in
set_option maxHeartbeats 6400000 in
theorem applies_create {Y : Nat → Prop} {F P M : Nat} {R : Option Nat} {room : Int} {n : Nat} (l : List UInt8) (gd d : Nat) (hl : (l.length : Int) ≤ 1073741824) (w : World) (h : FsM Y w F P M R room n none) (hd : Rb w (some ⟨gd, 0, none⟩) l) :
  Calls Try.prog 51 #[.pointer (some ⟨F, 0, none⟩), .agg #[.int .i64 0, .string nmA, .int .i64 0, .slice (some ⟨gd, 0, none⟩) l.length d]] w fun e w' => e = .returned (.tuple #[]) ∧ FsM Y w' F P M R room n (some l) ∧ Kp (fun k => k = M) w w' := by
 obtain ⟨V, hV⟩ : ∃ V, V = w.alloc (.cells #[.int .i64 0, .string nmA, .int .i64 0, .slice (some ⟨gd, 0, none⟩) l.length d] 92) := ⟨_, rfl⟩
 have gV : Gr w V := by rw [hV]; exact Gr.alloc (Gr.refl w) _
 have hz : w.heap.size < V.heap.size := by rw [hV]; simp
 have c0 : V.cell? ⟨w.heap.size, 0, none⟩ = some (.int .i64 0) := by rw [hV]; go_simp
 have c1 : V.cell? ⟨w.heap.size, 1, none⟩ = some (.string nmA) := by rw [hV]; go_simp
 have c3 : V.cell? ⟨w.heap.size, 3, none⟩ = some (.slice (some ⟨gd, 0, none⟩) l.length d) := by rw [hV]; go_simp
 have hF := h.gr gV
 have f2 := hF.f2
 have lfV := hF.lf
 have HF := Lib.hid (And.intro hF (hd.gr gV))
 have HV := Lib.hid hV
 have HG := Lib.hid gV
 have hsw := gV.size
 have HRW := Lib.hid h
 clear hV gV h hd hF
 obtain ⟨kl, hkl⟩ := keyA
 go_enter Try.func51, Try.ntmps51
 go_upto_region 1 with (fail)
 rw [← HV.out]
 clear HV
 go_upto_region 4 with (fail)
 refine wp_region_Z 9 (Gr V) (by kernel_rfl) ?_
 have hS0 : Gr V V.drew := Gr.drew (Gr.refl _)
 obtain ⟨W0, hW0⟩ : ∃ W0, W0 = V.drew := ⟨_, rfl⟩
 rw [← hW0] at hS0 ⊢
 clear hW0
 refine wpAnyZ_take (i := 0) (v := ?v1) rfl (by kernel_rfl) (fun _ _ _ h => h) (by rfl) (fun W hS => ?h1) hS0 ?r1
 case h1 => go_simp; rfl
 simp only [Act.put, List.getElem_toArray, List.getElem_cons_succ, List.getElem_cons_zero, List.setIfInBounds_toArray, List.set_cons_zero, List.set_cons_succ]
 refine wpAnyZ_take (i := 1) (v := ?v2) rfl (by kernel_rfl) (fun _ _ _ h => h) (by rfl) (fun W hS => ?h2) hS0 ?r2
 case h2 => go_simp; rfl
 simp only [Act.put, List.getElem_toArray, List.getElem_cons_succ, List.getElem_cons_zero, List.setIfInBounds_toArray, List.set_cons_zero, List.set_cons_succ]
 refine wpAnyZ_take (i := 2) (v := ?v3) rfl (by kernel_rfl) (fun _ _ _ h => h) (by rfl) (fun W hS => ?h3) hS0 ?r3
 case h3 => go_simp; rfl
 simp only [Act.put, List.getElem_toArray, List.getElem_cons_succ, List.getElem_cons_zero, List.setIfInBounds_toArray, List.set_cons_zero, List.set_cons_succ]
 refine wpAnyZ_take (i := 3) (v := ?v4) rfl (by kernel_rfl) (fun _ _ _ h => h) (by rfl) (fun W hS => ?h4) hS0 ?r4
 case h4 => have s2 := (Below.cell hS (p := ⟨F, 2, none⟩) lfV).trans f2; go_simp; rfl
 simp only [Act.put, List.getElem_toArray, List.getElem_cons_succ, List.getElem_cons_zero, List.setIfInBounds_toArray, List.set_cons_zero, List.set_cons_succ]
 refine wpAnyZ_take (i := 4) (v := ?v5) rfl (by kernel_rfl) (fun _ _ _ h => h) (by rfl) (fun W hS => ?h5) hS0 ?r5
 case h5 => go_simp; rfl
 simp only [Act.put, List.getElem_toArray, List.getElem_cons_succ, List.getElem_cons_zero, List.setIfInBounds_toArray, List.set_cons_zero, List.set_cons_succ]
 refine wpAnyZ_take (i := 5) (v := ?v6) rfl (by kernel_rfl) (fun _ _ _ h => h) (by rfl) (fun W hS => ?h6) hS0 ?r6
 case h6 => have s1 := (Below.cell hS (p := ⟨w.heap.size, 1, none⟩) hz).trans c1; go_simp; rfl
 simp only [Act.put, List.getElem_toArray, List.getElem_cons_succ, List.getElem_cons_zero, List.setIfInBounds_toArray, List.set_cons_zero, List.set_cons_succ]
 refine wpAnyZ_take (i := 6) (v := ?v7) rfl (by kernel_rfl) (fun _ _ _ h => h) (by rfl) (fun W hS => ?h7) hS0 ?r7
 case h7 => go_simp; rfl
 simp only [Act.put, List.getElem_toArray, List.getElem_cons_succ, List.getElem_cons_zero, List.setIfInBounds_toArray, List.set_cons_zero, List.set_cons_succ]
 refine wpAnyZ_take (i := 7) (v := ?v8) rfl (by kernel_rfl) (fun _ _ _ h => h) (by rfl) (fun W hS => ?h8) hS0 ?r8
 case h8 => have s3 := (Below.cell hS (p := ⟨w.heap.size, 3, none⟩) hz).trans c3; go_simp; rfl
 simp only [Act.put, List.getElem_toArray, List.getElem_cons_succ, List.getElem_cons_zero, List.setIfInBounds_toArray, List.set_cons_zero, List.set_cons_succ]
 refine wpAnyZ_ready (rs := [8]) (by kernel_rfl) (by simp) ?_
 refine AllReadyZ.cons (i := 8) rfl (by kernel_rfl) ?zx1 AllReadyZ.nil
 intro K hK
 simp only [List.getElem_toArray, List.getElem_cons_succ, List.getElem_cons_zero]
 go_simp
 refine (clone_any ⟨gd, 0, none⟩ d l (by omega) _ (HF.out.2.gr hS0)).mono ?_; rintro x W1 ⟨g, e, rfl, he, ho, g1⟩
 have hS1 : Gr V W1 := hS0.trans g1
 have HO := Lib.hid (And.intro he ho)
 have HS := Lib.hid hS0
 clear he ho g1 hS0
 go_wp2_with fail
 refine hK.out _ _ (fun hnz => ?zs2) (fun _ => ?zr3)
 case zs2 => exact hS1
 clear hK K
 try (simp only [Pu, List.getElem_toArray, List.getElem_cons_succ, List.getElem_cons_zero])
 have hF1 := HF.out.1.gr hS1
 obtain ⟨clk, hb⟩ := hF1.mp
 have hu := upd_none (P := Try.prog) (w := W1) Try.underlying60 keyedS hkl hb (.slice (some ⟨g, 0, none⟩) l.length e)
 have hgl := HO.out.2.lt g (by rfl)
 have hg0 := HS.out.size
 have hup := hF1.upd (l := l) (g := g) (c := e) HO.out.1 (Rb.own HO.out.2) hgl.2 ⟨fun h => by have := HF.out.1.lp; omega, fun h => by have := HF.out.1.lm; omega, fun h => by
  obtain ⟨v, xs, v1, v2, v3⟩ := HF.out.1.p0
  have := (v3.lt g (by rw [v2]; exact h)).2
  omega, fun h => by have := HF.out.1.yl g h; omega⟩ (clk + 1) clk
 have HU := Lib.hid hup
 clear hup hgl hg0 hF1
 refine wpAnyZ_ready (rs := [9]) (by kernel_rfl) (by simp) ?_
 refine AllReadyZ.cons (i := 9) rfl (by kernel_rfl) ?zx4 AllReadyZ.nil
 intro K hK
 simp only [List.getElem_toArray, List.getElem_cons_succ, List.getElem_cons_zero]
 go_simp
 refine hK.out _ _ (fun hnz => ?zs5) (fun _ => ?zr6)
 case zs5 => exact absurd rfl hnz
 clear hK K
 try (simp only [Pu, List.getElem_toArray, List.getElem_cons_succ, List.getElem_cons_zero])
 refine wpAnyZ_done (by kernel_rfl) ?_ _
 go_wp2
 go_end0
 exact ⟨rfl, HU.out.1, (Kp.of_gr _ (HG.out.trans hS1)).trans HU.out.2 (fun i _ h => h)⟩
end Go.Proofs.Ytoncapkmaeghfaa
namespace Go.Proofs.Ytoncapkmaeghfaa
set_option linter.unusedVariables false
set_option linter.unusedSimpArgs false
open Go.RowKit Go.ChangeMaps Go.Maps

/-- bytes laid over bytes. -/
def putB (l : List UInt8) (k : Nat) (d : List UInt8) : List UInt8 := l.take k ++ (d ++ l.drop (k + d.length))
theorem putB_len {l : List UInt8} {k : Nat} {d : List UInt8} (h : k + d.length ≤ l.length) : (putB l k d).length = l.length := by
 unfold putB
 simp
 omega
theorem bys_drop (l : List UInt8) (k : Nat) : bys (l.drop k) = (bys l).drop k := by simp [bys]
theorem bys_take (l : List UInt8) (k : Nat) : bys (l.take k) = (bys l).take k := by simp [bys]
theorem splice_bys {l d : List UInt8} {k : Nat} (rest : List Value) (h : k + d.length ≤ l.length) : splice (bys l ++ rest) k (bys d) = bys (putB l k d) ++ rest := by
 have e : (bys l).length = l.length := by simp [bys]
 have e2 : (bys d).length = d.length := by simp [bys]
 unfold splice putB
 rw [bys_append, bys_append, bys_drop, bys_take, List.take_append_of_le_length (by omega), List.drop_append_of_le_length (by omega), e2, List.append_assoc, List.append_assoc]
/-- a row of one's own, as a block. -/
theorem own_open {w : World} {base g n d : Nat} {e : TypeId} {l : List UInt8} (h : w.ownsRow base e 1 (.slice (some ⟨g, 0, none⟩) n d) n (bys l)) : ∃ (rest : List Value) (t : TypeId), w.heap[g]? = some (.cells (bys l ++ rest).toArray t (0, 0)) := by
 obtain ⟨h1, ⟨hv, h0⟩ | ⟨g', cap, cur, hv, hbs, hh, h2⟩⟩ := h
 ·
  cases hv
 ·
  injection hv with ha hn hc
  injection ha with ha
  injection ha with ha _ _
  subst ha
  obtain ⟨-, -, -, ht⟩ := h2
  refine ⟨cur.toList.drop n, e, ?_⟩
  rw [hh, ← ht, Nat.mul_one, List.take_append_drop]
theorem wp_copy_splice {P : Program} {ops : Array Oper} {o : Oper} {a : Act} {w : World} {K : Act → World → Prop} {Q : Exit → Act → World → Prop} (hgd : o.guard = none) (d s : Operand) (dT sT : TypeId)
  (ho : o.op = .call { callee := .builtin .copy, args := #[d, s], argTypes := #[dT, sT] }) (elem : TypeId) (hu : P.underlying dT = some (.slice elem)) (hsz : (P.info? elem).map (·.size) = some 1)
  (dp sp : Option Addr) (dLen dCap sLen sCap : Nat) (hd : a.eval d = .slice dp dLen dCap) (hs : a.eval s = .slice sp sLen sCap)
  (g off : Nat) (cur : List Value) (t : TypeId) (hg : w.heap[g]? = some (.cells cur.toArray t (0, 0))) (cs : List Value) (hn : cs.length = Nat.min sLen dLen)
  (hpos : 0 < cs.length → dp = some ⟨g, off, none⟩ ∧ ∃ ad, sp = some ad ∧ ∀ j v, cs[j]? = some v → w.cell? (ad.add j) = some v)
  (hfit : off + cs.length ≤ cur.length) (h1 : ∀ v ∈ cs, v.oneCell' = true) (B : Nat) (w0 : World) (hb : RowKit.Below B w0 w) (hBg : B ≤ g)
  (h : ∀ w', RowKit.Hid (w'.heap[g]? = some (.cells (splice cur off cs).toArray t (0, 0))) → RowKit.Below B w0 w' → K (a.put o.dst (goInt cs.length)) w') : Oper.wp P o a w K Q := by
 have h' := step_copy_splice (P := P) (ops := ops) (E := True) (Q := Q) (K := K) (o := o) (a := a) (w := w) hgd d s dT sT ho elem hu hsz dp sp dLen dCap sLen sCap hd hs g off cur t hg cs hn hpos hfit h1 B w0 hb hBg h
 rwa [if_pos (by simp [Region.wanted, hgd])] at h'
/-- the first cells of a block, as a row. -/
theorem block_rb {w : World} {g : Nat} {l : List UInt8} {rest : List Value} {t : TypeId} (h : w.heap[g]? = some (.cells (bys l ++ rest).toArray t (0, 0))) : Rb w (some ⟨g, 0, none⟩) l := by
 refine ⟨by rw [bys_length], fun _ => ⟨_, rfl, (Array.getElem?_eq_some_iff.1 h).1, fun j u hu => ?_⟩⟩
 have hj := (List.getElem?_eq_some_iff.1 hu).1
 rw [show (⟨g, 0, none⟩ : Addr).add j = ⟨g, j, none⟩ by simp [Addr.add]; omega]
 simp [World.cell?, h, List.getElem?_append_left hj, hu]
/-- one cell a byte. -/
theorem info_one : (Try.prog.info? 5).map (·.size) = some 1 := by kernel_rfl
set_option maxRecDepth 100000 in
set_option maxHeartbeats 6400000 in
theorem applies_write {Y : Nat → Prop} {F P M : Nat} {R : Option Nat} {room : Int} {n : Nat} (l m : List UInt8) (o gd d : Nat) (hl : (l.length : Int) ≤ 1073741824) (hom : o + m.length ≤ l.length) (w : World) (h : FsM Y w F P M R room n (some l)) (hd : Rb w (some ⟨gd, 0, none⟩) m) :
  Calls Try.prog 51 #[.pointer (some ⟨F, 0, none⟩), .agg #[.int .i64 1, .string nmA, .int .i64 o, .slice (some ⟨gd, 0, none⟩) m.length d]] w fun e w' => e = .returned (.tuple #[]) ∧ FsM Y w' F P M R room n (some (putB l o m)) ∧ Kp (fun k => k = M) w w' := by
 obtain ⟨V, hV⟩ : ∃ V, V = w.alloc (.cells #[.int .i64 1, .string nmA, .int .i64 o, .slice (some ⟨gd, 0, none⟩) m.length d] 92) := ⟨_, rfl⟩
 have gV : Gr w V := by rw [hV]; exact Gr.alloc (Gr.refl w) _
 have hz : w.heap.size < V.heap.size := by rw [hV]; simp
 have c0 : V.cell? ⟨w.heap.size, 0, none⟩ = some (.int .i64 1) := by rw [hV]; go_simp
 have c1 : V.cell? ⟨w.heap.size, 1, none⟩ = some (.string nmA) := by rw [hV]; go_simp
 have c2 : V.cell? ⟨w.heap.size, 2, none⟩ = some (.int .i64 o) := by rw [hV]; go_simp
 have c3 : V.cell? ⟨w.heap.size, 3, none⟩ = some (.slice (some ⟨gd, 0, none⟩) m.length d) := by rw [hV]; go_simp
 have hF := h.gr gV
 have f2 := hF.f2
 have lfV := hF.lf
 have lmV := hF.lm
 obtain ⟨clk, born, g0, cc, hb, hcc, hrb, hg0, hq0⟩ := hF.mp
 have HF := Lib.hid (And.intro hF (And.intro (hd.gr gV) hrb))
 have HV := Lib.hid hV
 have HG := Lib.hid gV
 have hoi : (o : Int) ≤ (l.length : Int) := by omega
 clear hV gV h hd hF hq0 hcc hrb
 obtain ⟨kl, hkl⟩ := keyA
 go_enter Try.func51, Try.ntmps51
 go_upto_region 1 with (fail)
 rw [← HV.out]
 clear HV
 go_upto_region 6 with (fail)
 refine wp_region_Z 8 (Gr V) (by kernel_rfl) ?_
 have hS0 : Gr V V.drew := Gr.drew (Gr.refl _)
 obtain ⟨W0, hW0⟩ : ∃ W0, W0 = V.drew := ⟨_, rfl⟩
 rw [← hW0] at hS0 ⊢
 clear hW0
 refine wpAnyZ_take (i := 0) (v := ?v1) rfl (by kernel_rfl) (fun _ _ _ h => h) (by rfl) (fun W hS => ?h1) hS0 ?r1
 case h1 => go_simp; rfl
 simp only [Act.put, List.getElem_toArray, List.getElem_cons_succ, List.getElem_cons_zero, List.setIfInBounds_toArray, List.set_cons_zero, List.set_cons_succ]
 refine wpAnyZ_take (i := 1) (v := ?v2) rfl (by kernel_rfl) (fun _ _ _ h => h) (by rfl) (fun W hS => ?h2) hS0 ?r2
 case h2 => go_simp; rfl
 simp only [Act.put, List.getElem_toArray, List.getElem_cons_succ, List.getElem_cons_zero, List.setIfInBounds_toArray, List.set_cons_zero, List.set_cons_succ]
 refine wpAnyZ_take (i := 2) (v := ?v3) rfl (by kernel_rfl) (fun _ _ _ h => h) (by rfl) (fun W hS => ?h3) hS0 ?r3
 case h3 => go_simp; rfl
 simp only [Act.put, List.getElem_toArray, List.getElem_cons_succ, List.getElem_cons_zero, List.setIfInBounds_toArray, List.set_cons_zero, List.set_cons_succ]
 refine wpAnyZ_take (i := 3) (v := ?v4) rfl (by kernel_rfl) (fun _ _ _ h => h) (by rfl) (fun W hS => ?h4) hS0 ?r4
 case h4 => have s2 := (Below.cell hS (p := ⟨F, 2, none⟩) lfV).trans f2; go_simp; rfl
 simp only [Act.put, List.getElem_toArray, List.getElem_cons_succ, List.getElem_cons_zero, List.setIfInBounds_toArray, List.set_cons_zero, List.set_cons_succ]
 refine wpAnyZ_take (i := 4) (v := ?v5) rfl (by kernel_rfl) (fun _ _ _ h => h) (by rfl) (fun W hS => ?h5) hS0 ?r5
 case h5 => go_simp; rfl
 simp only [Act.put, List.getElem_toArray, List.getElem_cons_succ, List.getElem_cons_zero, List.setIfInBounds_toArray, List.set_cons_zero, List.set_cons_succ]
 refine wpAnyZ_take (i := 5) (v := ?v6) rfl (by kernel_rfl) (fun _ _ _ h => h) (by rfl) (fun W hS => ?h6) hS0 ?r6
 case h6 => have s1 := (Below.cell hS (p := ⟨w.heap.size, 1, none⟩) hz).trans c1; go_simp; rfl
 simp only [Act.put, List.getElem_toArray, List.getElem_cons_succ, List.getElem_cons_zero, List.setIfInBounds_toArray, List.set_cons_zero, List.set_cons_succ]
 refine wpAnyZ_take (i := 6) (v := ?v7) rfl (by kernel_rfl) (fun _ _ _ h => h) (by rfl) (fun W hS => ?h7) hS0 ?r7
 case h7 =>
  have hl := look_one (P := Try.prog) (w := W) Try.underlying60 keyedS hkl ((Below.block hS M lmV).trans hb) false
  simp only [Bool.false_eq_true, if_false] at hl
  go_simp
  rfl
 simp only [Act.put, List.getElem_toArray, List.getElem_cons_succ, List.getElem_cons_zero, List.setIfInBounds_toArray, List.set_cons_zero, List.set_cons_succ]
 refine wpAnyZ_ready (rs := [7]) (by kernel_rfl) (by simp) ?_
 refine AllReadyZ.cons (i := 7) rfl (by kernel_rfl) ?zx1 AllReadyZ.nil
 intro K hK
 simp only [List.getElem_toArray, List.getElem_cons_succ, List.getElem_cons_zero]
 go_simp
 refine (clone_any ⟨g0, 0, none⟩ cc l (by omega) _ (HF.out.2.2.gr hS0)).mono ?_; rintro x W1 ⟨g, e2, rfl, he, ho, g1⟩
 have HB0 : Hid (Gr V W1) := Lib.hid (hS0.trans g1)
 have HZ0 := Lib.hid (Nat.le_trans hS0.size (Nat.le_of_eq rfl))
 have hge := (ho.lt g (by rfl))
 have HGB : Hid (V.heap.size ≤ g) := Lib.hid (Nat.le_trans hS0.size hge.1)
 obtain ⟨rest, T, hgb⟩ := own_open ho
 clear ho g1 hge
 go_wp2_with fail
 refine hK.out _ _ (fun hnz => ?zs2) (fun _ => ?zr3)
 case zs2 => exact HB0.out
 clear hK K
 try (simp only [Pu, List.getElem_toArray, List.getElem_cons_succ, List.getElem_cons_zero])
 refine wpAnyZ_ready (rs := [8]) (by kernel_rfl) (by simp) ?_
 refine AllReadyZ.cons (i := 8) rfl (by kernel_rfl) ?zx4 AllReadyZ.nil
 intro K hK
 simp only [List.getElem_toArray, List.getElem_cons_succ, List.getElem_cons_zero]
 go_simp
 refine hK.out _ _ (fun hnz => ?zs5) (fun _ => ?zr6)
 case zs5 => exact absurd rfl hnz
 clear hK K
 try (simp only [Pu, List.getElem_toArray, List.getElem_cons_succ, List.getElem_cons_zero])
 refine wpAnyZ_done (by kernel_rfl) ?_ _
 go_upto_region 7 with (fail)
 have hoe : (o : Int) ≤ (e2 : Int) := by omega
 have hoe2 : o ≤ e2 := by omega
 have hsub : (l.length : Int) - (o : Int) = ((l.length - o : Nat) : Int) := by omega
 by_cases hcap : e2 = o
 ·
  have HPOS : Hid (0 < (bys m).length → False) := Lib.hid (fun h => by rw [bys_length] at h; omega)
  refine wp_region_Z 6 (Gr V) (by kernel_rfl) ?_
  obtain ⟨W2, hW2⟩ : ∃ W2, W2 = W1.drew := ⟨_, rfl⟩
  have hS1 : Gr V W2 := by rw [hW2]; exact Gr.drew HB0.out
  have hgb1 : W2.heap[g]? = some (.cells (bys l ++ rest).toArray T (0, 0)) := by rw [hW2]; exact hgb
  rw [← hW2]
  clear hW2
  refine wpAnyZ_take (i := 0) (v := ?v8) rfl (by kernel_rfl) (fun _ _ _ h => h) (by rfl) (fun W hS => ?h8) hS1 ?r8
  case h8 => go_simp; rfl
  simp only [Act.put, List.getElem_toArray, List.getElem_cons_succ, List.getElem_cons_zero, List.setIfInBounds_toArray, List.set_cons_zero, List.set_cons_succ]
  refine wpAnyZ_take (i := 1) (v := ?v9) rfl (by kernel_rfl) (fun _ _ _ h => h) (by rfl) (fun W hS => ?h9) hS1 ?r9
  case h9 => go_simp; rfl
  simp only [Act.put, List.getElem_toArray, List.getElem_cons_succ, List.getElem_cons_zero, List.setIfInBounds_toArray, List.set_cons_zero, List.set_cons_succ]
  refine wpAnyZ_take (i := 2) (v := ?v10) rfl (by kernel_rfl) (fun _ _ _ h => h) (by rfl) (fun W hS => ?h10) hS1 ?r10
  case h10 => have s2 := (Below.cell hS (p := ⟨w.heap.size, 2, none⟩) hz).trans c2; go_simp; rfl
  simp only [Act.put, List.getElem_toArray, List.getElem_cons_succ, List.getElem_cons_zero, List.setIfInBounds_toArray, List.set_cons_zero, List.set_cons_succ]
  refine wpAnyZ_take (i := 3) (v := ?v11) rfl (by kernel_rfl) (fun _ _ _ h => h) (by rfl) (fun W hS => ?h11) hS1 ?r11
  case h11 => go_simp; rfl
  simp only [Act.put, List.getElem_toArray, List.getElem_cons_succ, List.getElem_cons_zero, List.setIfInBounds_toArray, List.set_cons_zero, List.set_cons_succ]
  refine wpAnyZ_take (i := 4) (v := ?v12) rfl (by kernel_rfl) (fun _ _ _ h => h) (by rfl) (fun W hS => ?h12) hS1 ?r12
  case h12 => go_simp; rfl
  simp only [Act.put, List.getElem_toArray, List.getElem_cons_succ, List.getElem_cons_zero, List.setIfInBounds_toArray, List.set_cons_zero, List.set_cons_succ]
  refine wpAnyZ_take (i := 5) (v := ?v13) rfl (by kernel_rfl) (fun _ _ _ h => h) (by rfl) (fun W hS => ?h13) hS1 ?r13
  case h13 => have s3 := (Below.cell hS (p := ⟨w.heap.size, 3, none⟩) hz).trans c3; go_simp; rfl
  simp only [Act.put, List.getElem_toArray, List.getElem_cons_succ, List.getElem_cons_zero, List.setIfInBounds_toArray, List.set_cons_zero, List.set_cons_succ]
  refine wpAnyZ_ready (rs := [6]) (by kernel_rfl) (by simp) ?_
  refine AllReadyZ.cons (i := 6) rfl (by kernel_rfl) ?zx7 AllReadyZ.nil
  intro K hK
  simp only [List.getElem_toArray, List.getElem_cons_succ, List.getElem_cons_zero]
  refine wp_copy_splice (ops := #[]) rfl (.tmp 37) (.tmp 39) 66 66 rfl 5 Try.underlying66 info_one _ (some ⟨gd, 0, none⟩) (l.length - o) _ m.length d rfl rfl g o (bys l ++ rest) T hgb1 (bys m) (by rw [bys_length, Nat.mul_one]; exact (Nat.min_eq_left (by omega)).symm) (fun h => (HPOS.out h).elim) (by rw [List.length_append, bys_length, bys_length]; omega) (bys_one _) V.heap.size V hS1 HGB.out ?_
  intro W3 hg3 hb3
  have hg4 : W3.heap[g]? = some (.cells (bys (putB l o m) ++ rest).toArray T (0, 0)) := by rw [← splice_bys rest hom]; exact hg3
  have hS3 : Gr V W3 := hb3
  have HG4 := Lib.hid hg4
  clear hg3 hb3 hg4 hgb1 hS1
  refine hK.out _ _ (fun hnz => ?zs8) (fun _ => ?zr9)
  case zs8 => exact absurd rfl hnz
  clear hK K
  try (simp only [Pu, List.getElem_toArray, List.getElem_cons_succ, List.getElem_cons_zero])
  refine wpAnyZ_done (by kernel_rfl) ?_ _
  go_upto_region 8 with (fail)
  refine wp_region_Z 7 (Gr V) (by kernel_rfl) ?_
  obtain ⟨W4, hW4⟩ : ∃ W4, W4 = W3.drew := ⟨_, rfl⟩
  have hS2 : Gr V W4 := by rw [hW4]; exact Gr.drew hS3
  have hg5 : W4.heap[g]? = some (.cells (bys (putB l o m) ++ rest).toArray T (0, 0)) := by rw [hW4]; exact HG4.out
  rw [← hW4]
  clear hW4 hS3
  have HG5 := Lib.hid hg5
  clear hg5
  refine wpAnyZ_take (i := 0) (v := ?v14) rfl (by kernel_rfl) (fun _ _ _ h => h) (by rfl) (fun W hS => ?h14) hS2 ?r14
  case h14 => go_simp; rfl
  simp only [Act.put, List.getElem_toArray, List.getElem_cons_succ, List.getElem_cons_zero, List.setIfInBounds_toArray, List.set_cons_zero, List.set_cons_succ]
  refine wpAnyZ_take (i := 1) (v := ?v15) rfl (by kernel_rfl) (fun _ _ _ h => h) (by rfl) (fun W hS => ?h15) hS2 ?r15
  case h15 => go_simp; rfl
  simp only [Act.put, List.getElem_toArray, List.getElem_cons_succ, List.getElem_cons_zero, List.setIfInBounds_toArray, List.set_cons_zero, List.set_cons_succ]
  refine wpAnyZ_take (i := 2) (v := ?v16) rfl (by kernel_rfl) (fun _ _ _ h => h) (by rfl) (fun W hS => ?h16) hS2 ?r16
  case h16 => go_simp; rfl
  simp only [Act.put, List.getElem_toArray, List.getElem_cons_succ, List.getElem_cons_zero, List.setIfInBounds_toArray, List.set_cons_zero, List.set_cons_succ]
  refine wpAnyZ_take (i := 3) (v := ?v17) rfl (by kernel_rfl) (fun _ _ _ h => h) (by rfl) (fun W hS => ?h17) hS2 ?r17
  case h17 => have s2 := (Below.cell hS (p := ⟨F, 2, none⟩) lfV).trans f2; go_simp; rfl
  simp only [Act.put, List.getElem_toArray, List.getElem_cons_succ, List.getElem_cons_zero, List.setIfInBounds_toArray, List.set_cons_zero, List.set_cons_succ]
  refine wpAnyZ_take (i := 4) (v := ?v18) rfl (by kernel_rfl) (fun _ _ _ h => h) (by rfl) (fun W hS => ?h18) hS2 ?r18
  case h18 => go_simp; rfl
  simp only [Act.put, List.getElem_toArray, List.getElem_cons_succ, List.getElem_cons_zero, List.setIfInBounds_toArray, List.set_cons_zero, List.set_cons_succ]
  refine wpAnyZ_take (i := 5) (v := ?v19) rfl (by kernel_rfl) (fun _ _ _ h => h) (by rfl) (fun W hS => ?h19) hS2 ?r19
  case h19 => have s1 := (Below.cell hS (p := ⟨w.heap.size, 1, none⟩) hz).trans c1; go_simp; rfl
  simp only [Act.put, List.getElem_toArray, List.getElem_cons_succ, List.getElem_cons_zero, List.setIfInBounds_toArray, List.set_cons_zero, List.set_cons_succ]
  refine wpAnyZ_take (i := 6) (v := ?v20) rfl (by kernel_rfl) (fun _ _ _ h => h) (by rfl) (fun W hS => ?h20) hS2 ?r20
  case h20 => go_simp; rfl
  simp only [Act.put, List.getElem_toArray, List.getElem_cons_succ, List.getElem_cons_zero, List.setIfInBounds_toArray, List.set_cons_zero, List.set_cons_succ]
  have hb4 := (Below.block hS2 M lmV).trans hb
  have hu := upd_one (P := Try.prog) (w := W4) Try.underlying60 keyedS hkl hb4 (.slice (some ⟨g, 0, none⟩) l.length o)
  have hpl := putB_len hom
  have hup := (HF.out.1.gr hS2).upd (l := putB l o m) (g := g) (c := o) (by rw [hpl]; omega) (block_rb HG5.out) (Array.getElem?_eq_some_iff.1 HG5.out).1 ⟨fun h => by have := HF.out.1.lp; have := HGB.out; omega, fun h => by have := HF.out.1.lm; have := HGB.out; omega, fun h => by
   obtain ⟨v, xs, v1, v2, v3⟩ := HF.out.1.p0
   have := (v3.lt g (by rw [v2]; exact h)).2
   have := HGB.out
   omega, fun h => by have := HF.out.1.yl g h; have := HGB.out; omega⟩ clk born
  rw [hpl] at hup
  have HU := Lib.hid hup
  have HS2 := Lib.hid hS2
  clear hup hpl hb4
  refine wpAnyZ_ready (rs := [7]) (by kernel_rfl) (by simp) ?_
  refine AllReadyZ.cons (i := 7) rfl (by kernel_rfl) ?zx10 AllReadyZ.nil
  intro K hK
  simp only [List.getElem_toArray, List.getElem_cons_succ, List.getElem_cons_zero]
  go_simp
  refine hK.out _ _ (fun hnz => ?zs11) (fun _ => ?zr12)
  case zs11 => exact absurd rfl hnz
  clear hK K
  try (simp only [Pu, List.getElem_toArray, List.getElem_cons_succ, List.getElem_cons_zero])
  refine wpAnyZ_done (by kernel_rfl) ?_ _
  go_wp2
  go_end0
  exact ⟨rfl, HU.out.1, (Kp.of_gr _ (HG.out.trans HS2.out)).trans HU.out.2 (fun i _ h => h)⟩
 ·
  have hcap2 : ¬ e2 ≤ o := by omega
  have hcap3 : o < e2 := by omega
  have HPOS : Hid (∀ j v, (bys m)[j]? = some v → V.cell? ((⟨gd, 0, none⟩ : Addr).add j) = some v) := Lib.hid (fun j v hv => by
   have hj : j < m.length := by have := (List.getElem?_eq_some_iff.1 hv).1; simpa [bys] using this
   obtain ⟨ad, e, -, hcl⟩ := HF.out.2.1.2 (by omega)
   injection e with e
   subst e
   exact hcl j v hv)
  have HGD : Hid (0 < m.length → gd < V.heap.size) := Lib.hid (fun hp => by obtain ⟨ad, e, hb, -⟩ := HF.out.2.1.2 hp; injection e with e; subst e; exact hb)
  refine wp_region_Z 6 (Gr V) (by kernel_rfl) ?_
  obtain ⟨W2, hW2⟩ : ∃ W2, W2 = W1.drew := ⟨_, rfl⟩
  have hS1 : Gr V W2 := by rw [hW2]; exact Gr.drew HB0.out
  have hgb1 : W2.heap[g]? = some (.cells (bys l ++ rest).toArray T (0, 0)) := by rw [hW2]; exact hgb
  rw [← hW2]
  clear hW2
  refine wpAnyZ_take (i := 0) (v := ?v21) rfl (by kernel_rfl) (fun _ _ _ h => h) (by rfl) (fun W hS => ?h21) hS1 ?r21
  case h21 => go_simp; rfl
  simp only [Act.put, List.getElem_toArray, List.getElem_cons_succ, List.getElem_cons_zero, List.setIfInBounds_toArray, List.set_cons_zero, List.set_cons_succ]
  refine wpAnyZ_take (i := 1) (v := ?v22) rfl (by kernel_rfl) (fun _ _ _ h => h) (by rfl) (fun W hS => ?h22) hS1 ?r22
  case h22 => go_simp; rfl
  simp only [Act.put, List.getElem_toArray, List.getElem_cons_succ, List.getElem_cons_zero, List.setIfInBounds_toArray, List.set_cons_zero, List.set_cons_succ]
  refine wpAnyZ_take (i := 2) (v := ?v23) rfl (by kernel_rfl) (fun _ _ _ h => h) (by rfl) (fun W hS => ?h23) hS1 ?r23
  case h23 => have s2 := (Below.cell hS (p := ⟨w.heap.size, 2, none⟩) hz).trans c2; go_simp; rfl
  simp only [Act.put, List.getElem_toArray, List.getElem_cons_succ, List.getElem_cons_zero, List.setIfInBounds_toArray, List.set_cons_zero, List.set_cons_succ]
  refine wpAnyZ_take (i := 3) (v := ?v24) rfl (by kernel_rfl) (fun _ _ _ h => h) (by rfl) (fun W hS => ?h24) hS1 ?r24
  case h24 => go_simp; rfl
  simp only [Act.put, List.getElem_toArray, List.getElem_cons_succ, List.getElem_cons_zero, List.setIfInBounds_toArray, List.set_cons_zero, List.set_cons_succ]
  refine wpAnyZ_take (i := 4) (v := ?v25) rfl (by kernel_rfl) (fun _ _ _ h => h) (by rfl) (fun W hS => ?h25) hS1 ?r25
  case h25 => go_simp; rfl
  simp only [Act.put, List.getElem_toArray, List.getElem_cons_succ, List.getElem_cons_zero, List.setIfInBounds_toArray, List.set_cons_zero, List.set_cons_succ]
  refine wpAnyZ_take (i := 5) (v := ?v26) rfl (by kernel_rfl) (fun _ _ _ h => h) (by rfl) (fun W hS => ?h26) hS1 ?r26
  case h26 => have s3 := (Below.cell hS (p := ⟨w.heap.size, 3, none⟩) hz).trans c3; go_simp; rfl
  simp only [Act.put, List.getElem_toArray, List.getElem_cons_succ, List.getElem_cons_zero, List.setIfInBounds_toArray, List.set_cons_zero, List.set_cons_succ]
  refine wpAnyZ_ready (rs := [6]) (by kernel_rfl) (by simp) ?_
  refine AllReadyZ.cons (i := 6) rfl (by kernel_rfl) ?zx13 AllReadyZ.nil
  intro K hK
  simp only [List.getElem_toArray, List.getElem_cons_succ, List.getElem_cons_zero]
  refine wp_copy_splice (ops := #[]) rfl (.tmp 37) (.tmp 39) 66 66 rfl 5 Try.underlying66 info_one _ (some ⟨gd, 0, none⟩) (l.length - o) _ m.length d rfl rfl g o (bys l ++ rest) T hgb1 (bys m) (by rw [bys_length, Nat.mul_one]; exact (Nat.min_eq_left (by omega)).symm) (fun h => ⟨rfl, ⟨gd, 0, none⟩, rfl, fun j v hv => by rw [bys_length] at h; exact (Below.cell hS1 (p := (⟨gd, 0, none⟩ : Addr).add j) (by rw [add_blk]; exact HGD.out (by omega))).trans (HPOS.out j v hv)⟩) (by rw [List.length_append, bys_length, bys_length]; omega) (bys_one _) V.heap.size V hS1 HGB.out ?_
  intro W3 hg3 hb3
  have hg4 : W3.heap[g]? = some (.cells (bys (putB l o m) ++ rest).toArray T (0, 0)) := by rw [← splice_bys rest hom]; exact hg3
  have hS3 : Gr V W3 := hb3
  have HG4 := Lib.hid hg4
  clear hg3 hb3 hg4 hgb1 hS1
  refine hK.out _ _ (fun hnz => ?zs14) (fun _ => ?zr15)
  case zs14 => exact absurd rfl hnz
  clear hK K
  try (simp only [Pu, List.getElem_toArray, List.getElem_cons_succ, List.getElem_cons_zero])
  refine wpAnyZ_done (by kernel_rfl) ?_ _
  go_upto_region 8 with (fail)
  refine wp_region_Z 7 (Gr V) (by kernel_rfl) ?_
  obtain ⟨W4, hW4⟩ : ∃ W4, W4 = W3.drew := ⟨_, rfl⟩
  have hS2 : Gr V W4 := by rw [hW4]; exact Gr.drew hS3
  have hg5 : W4.heap[g]? = some (.cells (bys (putB l o m) ++ rest).toArray T (0, 0)) := by rw [hW4]; exact HG4.out
  rw [← hW4]
  clear hW4 hS3
  have HG5 := Lib.hid hg5
  clear hg5
  refine wpAnyZ_take (i := 0) (v := ?v27) rfl (by kernel_rfl) (fun _ _ _ h => h) (by rfl) (fun W hS => ?h27) hS2 ?r27
  case h27 => go_simp; rfl
  simp only [Act.put, List.getElem_toArray, List.getElem_cons_succ, List.getElem_cons_zero, List.setIfInBounds_toArray, List.set_cons_zero, List.set_cons_succ]
  refine wpAnyZ_take (i := 1) (v := ?v28) rfl (by kernel_rfl) (fun _ _ _ h => h) (by rfl) (fun W hS => ?h28) hS2 ?r28
  case h28 => go_simp; rfl
  simp only [Act.put, List.getElem_toArray, List.getElem_cons_succ, List.getElem_cons_zero, List.setIfInBounds_toArray, List.set_cons_zero, List.set_cons_succ]
  refine wpAnyZ_take (i := 2) (v := ?v29) rfl (by kernel_rfl) (fun _ _ _ h => h) (by rfl) (fun W hS => ?h29) hS2 ?r29
  case h29 => go_simp; rfl
  simp only [Act.put, List.getElem_toArray, List.getElem_cons_succ, List.getElem_cons_zero, List.setIfInBounds_toArray, List.set_cons_zero, List.set_cons_succ]
  refine wpAnyZ_take (i := 3) (v := ?v30) rfl (by kernel_rfl) (fun _ _ _ h => h) (by rfl) (fun W hS => ?h30) hS2 ?r30
  case h30 => have s2 := (Below.cell hS (p := ⟨F, 2, none⟩) lfV).trans f2; go_simp; rfl
  simp only [Act.put, List.getElem_toArray, List.getElem_cons_succ, List.getElem_cons_zero, List.setIfInBounds_toArray, List.set_cons_zero, List.set_cons_succ]
  refine wpAnyZ_take (i := 4) (v := ?v31) rfl (by kernel_rfl) (fun _ _ _ h => h) (by rfl) (fun W hS => ?h31) hS2 ?r31
  case h31 => go_simp; rfl
  simp only [Act.put, List.getElem_toArray, List.getElem_cons_succ, List.getElem_cons_zero, List.setIfInBounds_toArray, List.set_cons_zero, List.set_cons_succ]
  refine wpAnyZ_take (i := 5) (v := ?v32) rfl (by kernel_rfl) (fun _ _ _ h => h) (by rfl) (fun W hS => ?h32) hS2 ?r32
  case h32 => have s1 := (Below.cell hS (p := ⟨w.heap.size, 1, none⟩) hz).trans c1; go_simp; rfl
  simp only [Act.put, List.getElem_toArray, List.getElem_cons_succ, List.getElem_cons_zero, List.setIfInBounds_toArray, List.set_cons_zero, List.set_cons_succ]
  refine wpAnyZ_take (i := 6) (v := ?v33) rfl (by kernel_rfl) (fun _ _ _ h => h) (by rfl) (fun W hS => ?h33) hS2 ?r33
  case h33 => go_simp; rfl
  simp only [Act.put, List.getElem_toArray, List.getElem_cons_succ, List.getElem_cons_zero, List.setIfInBounds_toArray, List.set_cons_zero, List.set_cons_succ]
  have hb4 := (Below.block hS2 M lmV).trans hb
  have hu := upd_one (P := Try.prog) (w := W4) Try.underlying60 keyedS hkl hb4 (.slice (some ⟨g, 0, none⟩) l.length e2)
  have hpl := putB_len hom
  have hup := (HF.out.1.gr hS2).upd (l := putB l o m) (g := g) (c := e2) (by rw [hpl]; omega) (block_rb HG5.out) (Array.getElem?_eq_some_iff.1 HG5.out).1 ⟨fun h => by have := HF.out.1.lp; have := HGB.out; omega, fun h => by have := HF.out.1.lm; have := HGB.out; omega, fun h => by
   obtain ⟨v, xs, v1, v2, v3⟩ := HF.out.1.p0
   have := (v3.lt g (by rw [v2]; exact h)).2
   have := HGB.out
   omega, fun h => by have := HF.out.1.yl g h; have := HGB.out; omega⟩ clk born
  rw [hpl] at hup
  have HU := Lib.hid hup
  have HS2 := Lib.hid hS2
  clear hup hpl hb4
  refine wpAnyZ_ready (rs := [7]) (by kernel_rfl) (by simp) ?_
  refine AllReadyZ.cons (i := 7) rfl (by kernel_rfl) ?zx16 AllReadyZ.nil
  intro K hK
  simp only [List.getElem_toArray, List.getElem_cons_succ, List.getElem_cons_zero]
  go_simp
  refine hK.out _ _ (fun hnz => ?zs17) (fun _ => ?zr18)
  case zs17 => exact absurd rfl hnz
  clear hK K
  try (simp only [Pu, List.getElem_toArray, List.getElem_cons_succ, List.getElem_cons_zero])
  refine wpAnyZ_done (by kernel_rfl) ?_ _
  go_wp2
  go_end0
  exact ⟨rfl, HU.out.1, (Kp.of_gr _ (HG.out.trans HS2.out)).trans HU.out.2 (fun i _ h => h)⟩
end Go.Proofs.Ytoncapkmaeghfaa
namespace Go.Proofs.Ytoncapkmaeghfaa
open Go.RowKit

set_option maxHeartbeats 400000 in
theorem is_any (ok : Bool) (n : Int) (w : World) :
  Calls Try.prog 58 #[.agg #[.bool ok, .int .i64 n]] w fun e w' => e = .returned (.bool (isB ⟨ok, n⟩)) ∧ Gr w w' := by
 cases ok <;>
 ·
  go_enter Try.func58, Try.ntmps58
  go_wp2
  all_goals (go_ret; exact ⟨by simp [isB, *] <;> omega, (by repeat (first | exact Gr.refl _ | refine Gr.alloc ?_ _ | refine Gr.drew ?_ | refine Gr.setCell ?_ (by first | (simp; done) | (simp; omega) | omega) _ | refine Gr.trans ?_ (by assumption)))⟩)
set_option maxHeartbeats 400000 in
theorem of_any (n : Int) (w : World) :
  Calls Try.prog 45 #[.int .i64 n] w fun e w' => e = .returned (.agg #[.bool (ofV n).ok, .int .i64 (ofV n).n]) ∧ Gr w w' := by
 go_enter Try.func45, Try.ntmps45
 go_wp2_with (go_at_call 58; refine (is_any true n _).mono ?_; rintro e w1 ⟨rfl, hg⟩; obtain ⟨hc, hf⟩ := hg.cells; have hz := hg.size)
 all_goals
  have q0 : w1.cell? ⟨w.heap.size, 0, none⟩ = some (.bool false) := by go_simp
  have q1 : w1.cell? ⟨w.heap.size, 1, none⟩ = some (.int .i64 0) := by go_simp
  exact bodyPost_ret (v := .agg #[.bool (ofV n).ok, .int .i64 (ofV n).n]) (by simp [results, Try.results45, go_sem, ofV, *]) rfl ⟨rfl, (by repeat (first | exact Gr.refl _ | refine Gr.alloc ?_ _ | refine Gr.drew ?_ | refine Gr.setCell ?_ (by first | (simp; done) | (simp; omega) | omega) _ | refine Gr.trans ?_ (by assumption)))⟩
set_option maxHeartbeats 400000 in
theorem int_any (n : Int) (w : World) :
  Calls Try.prog 74 #[.int .i64 n] w fun e w' => e = .returned (.agg #[.bool (intV n).ok, .int .i64 (intV n).n]) ∧ Gr w w' := by
 by_cases h1 : n < -4611686018427
 ·
  have hv : intV n = ⟨false, 0⟩ := by
   have : ¬ -4611686018427 ≤ n := by omega
   simp [intV, this]
  rw [hv]; clear hv
  go_enter Try.func74, Try.ntmps74
  go_wp2
  exact bodyPost_ret (v := .agg #[.bool false, .int .i64 0]) (by simp [results, Try.results74, go_sem]) rfl ⟨rfl, (by repeat (first | exact Gr.refl _ | refine Gr.alloc ?_ _ | refine Gr.drew ?_ | refine Gr.setCell ?_ (by first | (simp; done) | (simp; omega) | omega) _ | refine Gr.trans ?_ (by assumption)))⟩
 ·
  by_cases h2 : 4611686018427 < n
  ·
   have hv : intV n = ⟨false, 0⟩ := by
    have : ¬ n ≤ 4611686018427 := by omega
    simp [intV, this]
   rw [hv]; clear hv
   go_enter Try.func74, Try.ntmps74
   go_wp2
   exact bodyPost_ret (v := .agg #[.bool false, .int .i64 0]) (by simp [results, Try.results74, go_sem]) rfl ⟨rfl, (by repeat (first | exact Gr.refl _ | refine Gr.alloc ?_ _ | refine Gr.drew ?_ | refine Gr.setCell ?_ (by first | (simp; done) | (simp; omega) | omega) _ | refine Gr.trans ?_ (by assumption)))⟩
  ·
   have hv : intV n = ofV (n * 1000000) := by
    have a1 : -4611686018427 ≤ n := by omega
    have a2 : n ≤ 4611686018427 := by omega
    simp [intV, a1, a2]
   rw [hv]; clear hv
   go_enter Try.func74, Try.ntmps74
   go_wp2_with (go_at_call 45; refine (of_any (n * 1000000) _).mono ?_; rintro e w1 ⟨rfl, hg⟩; obtain ⟨hc, hf⟩ := hg.cells; have hz := hg.size)
   have q0 : w1.cell? ⟨w.heap.size, 0, none⟩ = some (.bool false) := by go_simp
   have q1 : w1.cell? ⟨w.heap.size, 1, none⟩ = some (.int .i64 0) := by go_simp
   exact bodyPost_ret (v := .agg #[.bool (ofV (n * 1000000)).ok, .int .i64 (ofV (n * 1000000)).n]) (by simp [results, Try.results74, go_sem, *]) rfl ⟨rfl, (by repeat (first | exact Gr.refl _ | refine Gr.alloc ?_ _ | refine Gr.drew ?_ | refine Gr.setCell ?_ (by first | (simp; done) | (simp; omega) | omega) _ | refine Gr.trans ?_ (by assumption)))⟩
set_option maxHeartbeats 400000 in
theorem kn_any (a : Vl) (w : World) :
  Calls Try.prog 77 #[.agg #[.bool a.ok, .int .i64 a.n]] w fun e w' => e = .returned (.bool (knB a)) ∧ Gr w w' := by
 obtain ⟨ok, n⟩ := a
 cases ok
 ·
  go_enter Try.func77, Try.ntmps77
  go_wp2
  go_ret
  exact ⟨by simp [knB], (by repeat (first | exact Gr.refl _ | refine Gr.alloc ?_ _ | refine Gr.drew ?_ | refine Gr.setCell ?_ (by first | (simp; done) | (simp; omega) | omega) _ | refine Gr.trans ?_ (by assumption)))⟩
 ·
  go_enter Try.func77, Try.ntmps77
  go_wp2_with (go_at_call 58; refine (is_any _ _ _).mono ?_; rintro e w1 ⟨rfl, hg⟩; obtain ⟨hc, hf⟩ := hg.cells; have hz := hg.size)
  go_ret
  exact ⟨by simp [knB], (by repeat (first | exact Gr.refl _ | refine Gr.alloc ?_ _ | refine Gr.drew ?_ | refine Gr.setCell ?_ (by first | (simp; done) | (simp; omega) | omega) _ | refine Gr.trans ?_ (by assumption)))⟩
end Go.Proofs.Ytoncapkmaeghfaa
