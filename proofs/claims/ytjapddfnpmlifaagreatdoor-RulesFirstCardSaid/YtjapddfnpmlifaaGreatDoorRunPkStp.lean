/- step of the program: how far it is, in memory; no walk. · step of the program: the ways behind a byte, or a Match. · slices.Repeat of one int: a row of ints in memory of its own. -/
import Derived.Test.YtjapddfnpmlifaaGreatDoorPkAdds
import Derived.Laws.CopyOwn
namespace Go.Proofs.YtjapddfnpmlifaaGreatDoor
set_option linter.unusedVariables false
set_option linter.unusedSimpArgs false
open Go.RowKit Go.Maps

/-- does instruction k take the byte at place p? -/
def SelB (code : List In) (t : List UInt8) (p k : Nat) : Prop := ∃ (hk : k < code.length) (hp : p < t.length), code[k].op = 1 ∧ hasS code[k].ps (t[p].toNat : Int) = true
theorem unseenP_none (n : Nat) : unseenP (fun _ => false) n = n := by
 unfold unseenP
 have : (List.range n).filter (fun _ : Nat => !false) = List.range n := List.filter_eq_self.2 (fun _ _ => rfl)
 exact (congrArg List.length this).trans (List.length_range)
/-- a list is made. -/
theorem LsM.made (w : World) : LsM w.heap.size (w.heap.size + 1) w.heap.size 0 ((w.alloc (.map #[] 0)).alloc (.cells #[.slice none 0 0, .map (some w.heap.size)] 123)) (.slice none 0 0) [] (fun _ => false) := by
 refine ⟨by go_simp, by go_simp, by go_simp, by simp, by omega, (MpB.made w).gr (Gr.alloc (Gr.refl _) _), World.ownsRow_nil _ _ _ _, ⟨by simp [Value.ownBlock], by simp [Value.ownBlock]⟩, fun x hx => (by cases hx), Nat.le_refl _⟩
structure StI (n : Nat) (code : List In) (t : List UInt8) (p : Nat) (Q : Int → Prop) (Wn : List Nat) (w0 : World) (j : Nat) (wr : World) (v' : Value) (W' : List Pw) (Wn' : List Nat) (S' : Int → Bool) (nB' : Nat) : Prop where
 gr : Gr w0 wr
 ls : LsM w0.heap.size (w0.heap.size + 1) w0.heap.size nB' wr v' W' S'
 wn : W'.map (·.pc) = Wn'.map (fun k : Nat => (k : Int))
 law : PkA code t (p + 1) Q S' Wn' []
 nb : nB' + unseenP S' n = n
 ov : ∀ k, v'.ownBlock = some k → w0.heap.size ≤ k
 all : ∀ i, i < j → ∀ k, Wn[i]? = some k → (∀ hk : k < code.length, code[k].op ≠ 7) ∧ (SelB code t p k → InR code ((k : Int) + 1) → S' ((k : Int) + 1) = true)
/-- how far step is: j ways are done. -/
def StR (n : Nat) (code : List In) (t : List UInt8) (p : Nat) (Q : Int → Prop) (Wn : List Nat) (w0 : World) (j : Nat) (wr : World) : Prop := ∃ v' W' Wn' S' nB', StI n code t p Q Wn w0 j wr v' W' Wn' S' nB'
theorem StR.start (n : Nat) (code : List In) (t : List UInt8) (p : Nat) (Q : Int → Prop) (Wn : List Nat) (w : World) : StR n code t p Q Wn w 0 ((w.alloc (.map #[] 0)).alloc (.cells #[.slice none 0 0, .map (some w.heap.size)] 123)) :=
 ⟨_, _, [], _, 0, Gr.alloc (Gr.alloc (Gr.refl w) _) _, LsM.made w, rfl, PkA.none code t (p + 1) Q, by rw [unseenP_none]; omega, fun k hk => (by cases hk), fun i hi => absurd hi (Nat.not_lt_zero _)⟩
section
variable {n : Nat} {code : List In} {t : List UInt8} {p : Nat} {Q : Int → Prop} {Wn : List Nat} {w0 : World} {j : Nat} {wr : World} {v' : Value} {W' : List Pw} {Wn' : List Nat} {S' : Int → Bool} {nB' : Nat}
theorem StI.go {w2 : World} (h : StI n code t p Q Wn w0 j wr v' W' Wn' S' nB') (g : Gr wr w2) : StI n code t p Q Wn w0 j w2 v' W' Wn' S' nB' :=
 ⟨h.gr.trans g, h.ls.gr g, h.wn, h.law, h.nb, h.ov, h.all⟩
/-- a way that leads nowhere. -/
theorem StI.skip {w2 : World} (h : StI n code t p Q Wn w0 j wr v' W' Wn' S' nB') (g : Gr wr w2) {k : Nat} (hk : Wn[j]? = some k) (h7 : ∀ hk : k < code.length, code[k].op ≠ 7) (hs : ¬ SelB code t p k) : StR n code t p Q Wn w0 (j + 1) w2 := by
 refine ⟨v', W', Wn', S', nB', h.gr.trans g, h.ls.gr g, h.wn, h.law, h.nb, h.ov, fun i hi k' hk' => ?_⟩
 rcases Nat.lt_succ_iff_lt_or_eq.1 hi with h1 | h1
 ·
  exact h.all i h1 k' hk'
 ·
  subst h1
  rw [hk] at hk'
  injection hk' with hk'
  subst hk'
  exact ⟨h7, fun e => absurd e hs⟩
/-- a way that leads on: adds has been called. -/
theorem StI.added {w1 w2 : World} (h : StI n code t p Q Wn w0 j wr v' W' Wn' S' nB') (g : Gr wr w1) {k : Nat} {e : Ending} (hk : Wn[j]? = some k) (h7 : ∀ hk : k < code.length, code[k].op ≠ 7)
  (r : RetAd w0.heap.size (w0.heap.size + 1) w0.heap.size nB' n code t (p + 1) Q w1 v' S' ((k : Int) + 1) e w2) : StR n code t p Q Wn w0 (j + 1) w2 := by
 obtain ⟨-, v2, W2, Wn2, S2, nB2, L, hwn, law, hin, hmo, f, ho, hnb⟩ := r
 have g1 := h.gr.trans g
 refine ⟨v2, W2, Wn2, S2, nB2, f.below g1 (fun x hx => ?_), L, hwn, law, by rw [hnb]; exact h.nb, fun x hx => ?_, fun i hi k' hk' => ?_⟩
 ·
  rcases hx with e | e | e
  ·
   omega
  ·
   omega
  ·
   exact h.ov x e.symm
 ·
  rcases ho with e | ⟨y, e, hy⟩
  ·
   exact h.ov x (by rw [← e]; exact hx)
  ·
   rw [e] at hx; injection hx with hx; subst hx; exact Nat.le_trans g1.size hy
 ·
  rcases Nat.lt_succ_iff_lt_or_eq.1 hi with h1 | h1
  ·
   exact ⟨(h.all i h1 k' hk').1, fun hs hi' => hmo _ ((h.all i h1 k' hk').2 hs hi')⟩
  ·
   subst h1
   rw [hk] at hk'
   injection hk' with hk'
   subst hk'
   exact ⟨h7, fun _ hi' => hin hi'⟩
end
/-- what step hands back. -/
def RetSt (n : Nat) (code : List In) (t : List UInt8) (p : Nat) (Q : Int → Prop) (Wn : List Nat) (w : World) (e : Ending) (w' : World) : Prop :=
 ∃ pv met v' W' Wn' S' nB' j, e = .returned (.tuple #[.pointer (some ⟨w.heap.size + 1, 0, none⟩), pv, .bool met]) ∧ StI n code t p Q Wn w j w' v' W' Wn' S' nB' ∧
  (met = true → (∃ k ∈ Wn, ∃ hk : k < code.length, code[k].op = 7) ∧ ∃ a m, Plc w' pv a m) ∧ (met = false → j = Wn.length)
theorem RetSt.met {n : Nat} {code : List In} {t : List UInt8} {p : Nat} {Q : Int → Prop} {Wn : List Nat} {w w' : World} {j : Nat} (h : StR n code t p Q Wn w j w') {k : Nat} (hk : k ∈ Wn) (hkl : k < code.length) (h7 : code[k].op = 7) {pv : Value} {a m : Nat} (hp : Plc w' pv a m) :
  RetSt n code t p Q Wn w (.returned (.tuple #[.pointer (some ⟨w.heap.size + 1, 0, none⟩), pv, .bool true])) w' := by
 obtain ⟨v', W', Wn', S', nB', h⟩ := h
 exact ⟨pv, true, v', W', Wn', S', nB', j, rfl, h, fun _ => ⟨⟨k, hk, hkl, h7⟩, a, m, hp⟩, fun e => (by cases e)⟩
theorem RetSt.none {n : Nat} {code : List In} {t : List UInt8} {p : Nat} {Q : Int → Prop} {Wn : List Nat} {w w' : World} (h : StR n code t p Q Wn w Wn.length w') :
  RetSt n code t p Q Wn w (.returned (.tuple #[.pointer (some ⟨w.heap.size + 1, 0, Option.none⟩), .slice Option.none 0 0, .bool false])) w' := by
 obtain ⟨v', W', Wn', S', nB', h⟩ := h
 exact ⟨_, false, v', W', Wn', S', nB', _, rfl, h, fun e => (by cases e), fun _ => rfl⟩
/-- the cells of a way in a list's row. -/
theorem way_cells {w : World} {b0 : Nat} {v : Value} {W : List Pw} (h : w.ownsRow b0 128 2 v W.length (pwc W)) {j : Nat} (hj : j < W.length) :
  ∃ g c, v = .slice (some ⟨g, 0, Option.none⟩) W.length c ∧ W.length ≤ c ∧ c ≤ maxLen ∧ g < w.heap.size ∧ w.cell? ⟨g, j * 2, Option.none⟩ = some W[j].sv ∧ w.cell? ⟨g, j * 2 + 1, Option.none⟩ = some (.int .i64 W[j].pc) := by
 obtain ⟨A, c, hv⟩ := own_form h
 subst hv
 obtain ⟨g, rfl, -, hg, hc⟩ := own_blockU h (by omega)
 obtain ⟨h1, h2⟩ := own_cap' h
 have k : ∀ i, i < 2 → (pwc W)[j * 2 + i]? = (pwc [W[j]])[i]? := fun i hi => by
  have e : W = W.take j ++ W[j] :: W.drop (j + 1) := by rw [List.getElem_cons_drop, List.take_append_drop]
  have hl : (pwc (W.take j)).length = j * 2 := by rw [pwc_length, List.length_take]; omega
  conv => lhs; rw [e]
  rw [pwc_append, List.getElem?_append_right (by omega), hl, show j * 2 + i - j * 2 = i by omega, pwc_cons]
  rcases i with _ | _ | i
  ·
   rfl
  ·
   rfl
  ·
   omega
 exact ⟨g, c, rfl, h1, h2, hg, hc _ _ (k 0 (by omega)), hc _ _ (k 1 (by omega))⟩
end Go.Proofs.YtjapddfnpmlifaaGreatDoor
namespace Go.Proofs.YtjapddfnpmlifaaGreatDoor
set_option linter.unusedVariables false
set_option linter.unusedSimpArgs false
open Go.RowKit Go.Maps

set_option maxRecDepth 100000 in
set_option maxHeartbeats 6400000 in
theorem step_any (b0 hw hl B nB n cA G : Nat) (A : Option Addr) (code : List In) (s : ByteArray) (p : Nat) (Q : Int → Prop) (w : World) (v : Value) (W : List Pw) (Wn : List Nat) (S : Int → Bool)
  (hn : n = code.length) (hn2 : n ≤ 2000) (hps : ∀ v ∈ code, v.ps.length ≤ 100000) (hs : (s.size : Int) ≤ 4096) (hp : p ≤ s.size) (k0 : w.cell? ⟨hw, 0, none⟩ = some (.int .i64 G)) (k1 : w.cell? ⟨hw, 1, none⟩ = some (.slice A n cA)) (k2 : w.cell? ⟨hw, 2, none⟩ = some (.string s)) (hr : Ri w A code)
  (hL : LsM b0 hl B nB w v W S) (hW : W.map (·.pc) = Wn.map (fun k : Nat => (k : Int))) (hWo : ∀ k ∈ Wn, ∃ h : k < code.length, code[k].op = 1 ∨ code[k].op = 7) (hnB : nB ≤ 4000) (hQ0 : ∀ k ∈ Wn, SelB code s.data.toList p k → Q ((k : Int) + 1)) (hQ : ∀ (k : Nat) x, Q k → x ∈ succE code s.data.toList k (p + 1) → Q x) :
  Calls Tryz.prog 56 #[.pointer (some ⟨hw, 0, none⟩), .pointer (some ⟨hl, 0, none⟩), .int .i64 p] w (RetSt n code s.data.toList p Q Wn w) := by
 obtain ⟨A0, c0, hv⟩ := own_form hL.own
 subst hv
 obtain ⟨wS, hwS⟩ : ∃ wS, wS = (w.alloc (.map #[] 0)).alloc (.cells #[.slice none 0 0, .map (some w.heap.size)] 123) := ⟨_, rfl⟩
 have gS : Gr w wS := by rw [hwS]; exact Gr.alloc (Gr.alloc (Gr.refl w) _) _
 have R0 : StR n code s.data.toList p Q Wn w 0 wS := by rw [hwS]; exact StR.start n code s.data.toList p Q Wn w
 have HwS := Lib.hid hwS
 have hlz := hL.hz
 have l0 := (Below.cell gS (p := ⟨hl, 0, none⟩) hlz).trans hL.c0
 have hWl : W.length ≤ 4000 := Nat.le_trans hL.wl hnB
 have hWli : (W.length : Int) ≤ 4000 := by omega
 have hlen : W.length = Wn.length := by have := congrArg List.length hW; simpa using this
 have hw0 : hw < w.heap.size := World.block_lt_of_cell? _ _ k1
 have hpi : (p : Int) ≤ (s.size : Int) := by omega
 have HL := Lib.hid hL
 have HR := Lib.hid hr
 have HCC := Lib.hid (And.intro hn hlen)
 have HWW := Lib.hid (And.intro hW hWo)
 have HPS := Lib.hid hps
 have HQ := Lib.hid (And.intro hQ0 hQ)
 have HK := Lib.hid (And.intro k0 (And.intro k1 k2))
 have HR0 := Lib.hid R0
 have HGS := Lib.hid gS
 clear hwS gS R0 hL hr hn hW hWo hps hQ0 hQ k0 k1 k2 hlen hnB
 have hmm := @run_makeMap Tryz.prog
 go_enter Tryz.func56, Tryz.ntmps56
 go_upto_region 2 with (fail)
 rw [← HwS.out]
 clear HwS hmm
 go_wp2
 go_loopw [21] (fun i wr => ∃ j : Nat, j ≤ W.length ∧ i = .int .i64 j ∧ StR n code s.data.toList p Q Wn w j wr) (fun i _ => W.length - (intOf i).toNat)
 case atStart => exact ⟨0, Nat.zero_le _, rfl, HR0.out⟩
 case round =>
  obtain ⟨j, hj, rfl, hR⟩ := hrel
  clear l0
  by_cases hlt : j < W.length
  ·
   have hji : (j : Int) < (W.length : Int) := by omega
   obtain ⟨v', W', Wn', S', nB', hI⟩ := hR
   obtain ⟨g, cv, hv, hcl, hcm, hgz, t0, t1⟩ := way_cells (own_grU HL.out.own hI.gr) hlt
   injection hv with hv1 hv2 hv3
   subst hv1
   subst hv3
   have hcli : (W.length : Int) ≤ (c0 : Int) := by omega
   have hcmi : (c0 : Int) ≤ 9223372036854775807 := by unfold maxLen at hcm; omega
   have hjn : Wn[j]? = some (Wn[j]'(by rw [← HCC.out.2]; exact hlt)) := List.getElem?_eq_getElem _
   have hpc : W[j].pc = ((Wn[j]'(by rw [← HCC.out.2]; exact hlt) : Nat) : Int) := by
    have h1 := congrArg (fun l => l[j]?) HWW.out.1
    simp only [List.getElem?_map, List.getElem?_eq_getElem hlt, hjn, Option.map_some] at h1
    injection h1
   have hkm : Wn[j]'(by rw [← HCC.out.2]; exact hlt) ∈ Wn := List.getElem_mem _
   have hpl := HL.out.pl W[j] (List.getElem_mem hlt)
   rw [hpc] at t1
   generalize Wn[j]'(by rw [← HCC.out.2]; exact hlt) = k at t1 hjn hkm hpc
   obtain ⟨hkl, hop⟩ := HWW.out.2 k hkm
   have hkn : k < n := by rw [HCC.out.1]; exact hkl
   have hkni : (k : Int) < (n : Int) := by omega
   obtain ⟨a, ms, ⟨cs, hsv, hm0, hm3, haz, hac⟩, hex⟩ := hpl
   have HPX : Hid (PlX (fun x => x = hl ∨ x = B ∨ some x = (Value.slice (some ⟨g, 0, none⟩) W.length c0).ownBlock) w W[j].sv) := Lib.hid ⟨a, ms, ⟨cs, hsv, hm0, hm3, haz, hac⟩, hex⟩
   have HPL := Lib.hid (show Plc w (.slice (some ⟨a, 0, none⟩) ms cs) a ms from ⟨cs, rfl, hm0, hm3, haz, hac⟩)
   rw [hsv] at t0 HPX
   have HKM := Lib.hid hkm
   have HJN := Lib.hid hjn
   have HI := Lib.hid hI
   have HKL := Lib.hid hkl
   have hwr : hw < wr.heap.size := Nat.lt_of_lt_of_le hw0 hI.gr.size
   clear hcl hcm hgz hjn hkm hpc hac hm0 hm3 haz hsv hex hv2 hI
   go_upto_region 5 with (fail)
   obtain ⟨wB, hwB⟩ : ∃ wB, wB = wr.alloc (.cells #[.slice (some ⟨a, 0, none⟩) ms cs, .int .i64 (k : Nat)] 128) := ⟨_, rfl⟩
   have gB : Gr wr wB := by rw [hwB]; exact Gr.alloc (Gr.refl wr) _
   have e0 : wB.cell? ⟨wr.heap.size, 0, none⟩ = some (.slice (some ⟨a, 0, none⟩) ms cs) := by rw [hwB]; go_simp
   have e1 : wB.cell? ⟨wr.heap.size, 1, none⟩ = some (.int .i64 (k : Nat)) := by rw [hwB]; go_simp
   have hzwB : wr.heap.size < wB.heap.size := by rw [hwB]; simp
   rw [← hwB]
   clear hwB t0 t1
   have g0B := HI.out.gr.trans gB
   have k1B := (Below.cell g0B (p := ⟨hw, 1, none⟩) hw0).trans HK.out.2.1
   have hhwB : hw < wB.heap.size := Nat.lt_of_lt_of_le hw0 g0B.size
   obtain ⟨ad, hA, hadlt, d0, d1, d2, d3⟩ := Ri.at (HR.out.gr g0B) HKL.out
   have HAB : Hid (ad.block < w.heap.size) := Lib.hid (by obtain ⟨ad', e, hb, -⟩ := HR.out.2 (by rw [← HCC.out.1]; omega); rw [hA] at e; injection e with e; rw [e]; exact hb)
   subst hA
   obtain ⟨vi, hvi⟩ : ∃ vi, vi = code[k]'HKL.out := ⟨_, rfl⟩
   have hop' := hop
   rw [← hvi] at d0 d1 d2 d3 hop'
   obtain ⟨op, x, y, ps⟩ := vi
   simp only at d0 d1 d2 d3 hop'
   have HVV := Lib.hid hvi.symm
   have HGB := Lib.hid gB
   generalize wr.heap.size = Bw at e0 e1 hzwB ⊢
   clear hvi g0B hop gB
   refine wp_region_Z 10 (fun W => Gr wB W) (by kernel_rfl) ?_
   have hS0 : Gr wB wB.drew := Gr.drew (Gr.refl _)
   refine wpAnyZ_take (i := 0) (v := ?v1) rfl (by kernel_rfl) (fun _ _ _ h => h) (by rfl) (fun W hS => ?h1) hS0 ?r1
   case h1 => go_simp; rfl
   simp only [Act.put, List.getElem_toArray, List.getElem_cons_succ, List.getElem_cons_zero, List.setIfInBounds_toArray, List.set_cons_zero, List.set_cons_succ]
   refine wpAnyZ_take (i := 1) (v := ?v2) rfl (by kernel_rfl) (fun _ _ _ h => h) (by rfl) (fun W hS => ?h2) hS0 ?r2
   case h2 => go_simp; rfl
   simp only [Act.put, List.getElem_toArray, List.getElem_cons_succ, List.getElem_cons_zero, List.setIfInBounds_toArray, List.set_cons_zero, List.set_cons_succ]
   refine wpAnyZ_take (i := 2) (v := ?v3) rfl (by kernel_rfl) (fun _ _ _ h => h) (by rfl) (fun W hS => ?h3) hS0 ?r3
   case h3 => go_simp; rfl
   simp only [Act.put, List.getElem_toArray, List.getElem_cons_succ, List.getElem_cons_zero, List.setIfInBounds_toArray, List.set_cons_zero, List.set_cons_succ]
   refine wpAnyZ_take (i := 3) (v := ?v4) rfl (by kernel_rfl) (fun _ _ _ h => h) (by rfl) (fun W hS => ?h4) hS0 ?r4
   case h4 => go_simp; rfl
   simp only [Act.put, List.getElem_toArray, List.getElem_cons_succ, List.getElem_cons_zero, List.setIfInBounds_toArray, List.set_cons_zero, List.set_cons_succ]
   refine wpAnyZ_take (i := 4) (v := ?v5) rfl (by kernel_rfl) (fun _ _ _ h => h) (by rfl) (fun W hS => ?h5) hS0 ?r5
   case h5 => have g1 := (Below.cell hS (p := ⟨hw, 1, none⟩) hhwB).trans k1B; go_simp; rfl
   simp only [Act.put, List.getElem_toArray, List.getElem_cons_succ, List.getElem_cons_zero, List.setIfInBounds_toArray, List.set_cons_zero, List.set_cons_succ]
   refine wpAnyZ_take (i := 5) (v := ?v6) rfl (by kernel_rfl) (fun _ _ _ h => h) (by rfl) (fun W hS => ?h6) hS0 ?r6
   case h6 => go_simp; rfl
   simp only [Act.put, List.getElem_toArray, List.getElem_cons_succ, List.getElem_cons_zero, List.setIfInBounds_toArray, List.set_cons_zero, List.set_cons_succ]
   refine wpAnyZ_take (i := 6) (v := ?v7) rfl (by kernel_rfl) (fun _ _ _ h => h) (by rfl) (fun W hS => ?h7) hS0 ?r7
   case h7 => have g1 := (Below.cell hS (p := ⟨Bw, 1, none⟩) hzwB).trans e1; go_simp; rfl
   simp only [Act.put, List.getElem_toArray, List.getElem_cons_succ, List.getElem_cons_zero, List.setIfInBounds_toArray, List.set_cons_zero, List.set_cons_succ]
   refine wpAnyZ_take (i := 7) (v := ?v8) rfl (by kernel_rfl) (fun _ _ _ h => h) (by rfl) (fun W hS => ?h8) hS0 ?r8
   case h8 => go_simp; rfl
   simp only [Act.put, List.getElem_toArray, List.getElem_cons_succ, List.getElem_cons_zero, List.setIfInBounds_toArray, List.set_cons_zero, List.set_cons_succ]
   refine wpAnyZ_take (i := 8) (v := ?v9) rfl (by kernel_rfl) (fun _ _ _ h => h) (by rfl) (fun W hS => ?h9) hS0 ?r9
   case h9 => have g0 := (Below.cell hS (p := ad.add (k * 4)) (by rw [add_blk]; exact hadlt)).trans d0; have g1 := (Below.cell hS (p := ⟨(ad.add (k * 4)).block, (ad.add (k * 4)).off + 1, none⟩) (by rw [add_blk]; exact hadlt)).trans d1; have g2 := (Below.cell hS (p := ⟨(ad.add (k * 4)).block, (ad.add (k * 4)).off + 2, none⟩) (by rw [add_blk]; exact hadlt)).trans d2; have g3 := (Below.cell hS (p := ⟨(ad.add (k * 4)).block, (ad.add (k * 4)).off + 3, none⟩) (by rw [add_blk]; exact hadlt)).trans d3; go_simp; rfl
   simp only [Act.put, List.getElem_toArray, List.getElem_cons_succ, List.getElem_cons_zero, List.setIfInBounds_toArray, List.set_cons_zero, List.set_cons_succ]
   refine wpAnyZ_ready (rs := [9]) (by kernel_rfl) (by simp) ?_
   refine AllReadyZ.cons rfl (by rfl) (fun K hK => ?_) ?_
   rotate_left
   exact AllReadyZ.nil
   go_wp2_with fail
   refine hK.out _ _ (fun hnz => ?s10) (fun _ => ?r10)
   case s10 => exact Gr.alloc hS0 _
   clear hK K
   try simp only [Pu, List.getElem_toArray, List.getElem_cons_succ, List.getElem_cons_zero]
   refine wpAnyZ_ready (rs := [10]) (by kernel_rfl) (by simp) ?_
   refine AllReadyZ.cons rfl (by rfl) (fun K hK => ?_) ?_
   rotate_left
   exact AllReadyZ.nil
   go_wp2_with fail
   refine hK.out _ _ (fun hnz => ?s11) (fun _ => ?r11)
   case s11 => exact absurd rfl hnz
   clear hK K
   try simp only [Pu, List.getElem_toArray, List.getElem_cons_succ, List.getElem_cons_zero]
   refine wpAnyZ_done (by kernel_rfl) ?_ _
   obtain ⟨wC, hwC⟩ : ∃ wC, wC = (wB.alloc (.cells #[.int .i64 op, .int .i64 x, .int .i64 y, .string ⟨ps.toArray⟩] 163)).drew := ⟨_, rfl⟩
   have gC : Gr wB wC := by rw [hwC]; exact Gr.drew (Gr.alloc (Gr.refl wB) _)
   have q0 : wC.cell? ⟨wB.heap.size, 0, none⟩ = some (.int .i64 op) := by rw [hwC]; go_simp
   have q3 : wC.cell? ⟨wB.heap.size, 3, none⟩ = some (.string ⟨ps.toArray⟩) := by rw [hwC]; go_simp
   have hzqC : wB.heap.size < wC.heap.size := by rw [hwC]; simp
   rw [← hwC]
   clear hwC hS0 d0 d1 d2 d3 hadlt
   have e0C := (Below.cell gC (p := ⟨Bw, 0, none⟩) hzwB).trans e0
   have e1C := (Below.cell gC (p := ⟨Bw, 1, none⟩) hzwB).trans e1
   have hzwC : Bw < wC.heap.size := Nat.lt_of_lt_of_le hzwB gC.size
   have HGC := Lib.hid (HGB.out.trans gC)
   have hhwC : hw < wC.heap.size := Nat.lt_of_lt_of_le hhwB gC.size
   have k2C := (Below.cell (HI.out.gr.trans HGC.out) (p := ⟨hw, 2, none⟩) hw0).trans HK.out.2.2
   generalize wB.heap.size = Bq at q0 q3 hzqC ⊢
   clear gC e0 e1 hzwB hhwB k1B HGB
   by_cases o7 : op = 7
   ·
    subst o7
    have HRT : Hid (∀ W2, Gr wC W2 → RetSt n code s.data.toList p Q Wn w (.returned (.tuple #[.pointer (some ⟨w.heap.size + 1, 0, none⟩), .slice (some ⟨a, 0, none⟩) ms cs, .bool true])) W2) := Lib.hid fun W2 g2 =>
     RetSt.met (j := j) ⟨v', W', Wn', S', nB', HI.out.go (HGC.out.trans g2)⟩ HKM.out HKL.out (by rw [HVV.out]) (HPL.out.gr ((HI.out.gr.trans HGC.out).trans g2))
    clear hop'
    go_upto_region 7 with (fail)
    refine region_Q (by kernel_rfl) (by kernel_rfl) ?_
    iterate 3 (refine q_val (v := ?_) (by rfl) (fun W hW => ?_) ?_; rotate_left; (focus go_simp; rfl); simp only [Pu])
    refine q_val (v := ?qv4) (by rfl) (fun W hW => ?qh4) ?qr4
    case qh4 => have g1 := (Below.cell hW (p := ⟨Bw, 0, none⟩) hzwC).trans e0C; go_simp; rfl
    simp only [Pu]
    iterate 3 (refine q_val (v := ?_) (by rfl) (fun W hW => ?_) ?_; rotate_left; (focus go_simp; rfl); simp only [Pu])
    refine wpQuiet_nil ?_
    intro w9 hw9
    have HF := Lib.hid (HRT.out w9 hw9)
    clear hw9
    go_wp2
    go_ret3
    exact HF.out
   have o1 : op = 1 := by omega
   subst o1
   clear hop' o7
   have HN7 : Hid (∀ hk : k < code.length, code[k].op ≠ 7) := Lib.hid fun hk => by rw [HVV.out]; exact (by decide : (1 : Int) ≠ 7)
   by_cases hps2 : p < s.size
   ·
    have n1 : decide ((p : Int) < (s.size : Int)) = true := decide_eq_true (by omega)
    have hpi2 : (p : Int) < (s.size : Int) := by omega
    obtain ⟨hb, hhb⟩ : ∃ hb, hb = hasS ps (s[p].toNat : Int) := ⟨_, rfl⟩
    have HHC := fun W => has_any ⟨ps.toArray⟩ (by have := HPS.out _ (List.getElem_mem HKL.out); rw [HVV.out] at this; simp only at this; show ((ps.toArray.size : Nat) : Int) ≤ _; rw [List.size_toArray]; omega) (s[p].toNat : Int) W
    rw [show (⟨ps.toArray⟩ : ByteArray).data.toList = ps from rfl, ← hhb] at HHC
    have HHC : ∀ W, Calls Tryz.prog 90 #[.string ⟨ps.toArray⟩, .int .u8 (s[p].toNat : Int)] W (fun e w' => e = .returned (.bool hb) ∧ Gr W w') := fun W => (HHC W).mono fun e w' h => ⟨h.1, by rw [← h.2]; exact Gr.refl _⟩
    have HHH : Hid (∀ W, Calls Tryz.prog 90 #[.string ⟨ps.toArray⟩, .int .u8 (s[p].toNat : Int)] W (fun e w' => e = .returned (.bool hb) ∧ Gr W w')) := Lib.hid HHC
    have HHB := Lib.hid hhb
    clear hhb HHC
    go_upto_region 8 with (fail)
    refine region_R (by kernel_rfl) (by kernel_rfl) ?_
    iterate 4 (refine r_val (v := ?_) (by kernel_rfl) (fun W hW => ?_) ?_; rotate_left; (focus go_light; go_simp; rfl); simp only [Pu])
    refine r_val (v := ?qv12) (by kernel_rfl) (fun W hW => ?qh12) ?qr12
    case qh12 => have g1 := (Below.cell hW (p := ⟨hw, 2, none⟩) hhwC).trans k2C; go_light; go_simp; rfl
    simp only [Pu]
    iterate 4 (refine r_val (v := ?_) (by kernel_rfl) (fun W hW => ?_) ?_; rotate_left; (focus go_light; go_simp; rfl); simp only [Pu])
    refine r_val (v := ?qv17) (by kernel_rfl) (fun W hW => ?qh17) ?qr17
    case qh17 => have g1 := (Below.cell hW (p := ⟨Bq, 3, none⟩) hzqC).trans q3; go_light; go_simp; rfl
    simp only [Pu]
    iterate 3 (refine r_val (v := ?_) (by kernel_rfl) (fun W hW => ?_) ?_; rotate_left; (focus go_light; go_simp; rfl); simp only [Pu])
    refine r_val (v := ?qv21) (by kernel_rfl) (fun W hW => ?qh21) ?qr21
    case qh21 => have g1 := (Below.cell hW (p := ⟨hw, 2, none⟩) hhwC).trans k2C; go_light; go_simp; rfl
    simp only [Pu]
    iterate 2 (refine r_val (v := ?_) (by kernel_rfl) (fun W hW => ?_) ?_; rotate_left; (focus go_light; go_simp; rfl); simp only [Pu])
    refine r_call (v := .bool hb) (f := ?qf24) (args := ?qa24) (by kernel_rfl) (fun W hW => ?qh24) (fun W hW => ?qc24) ?qr24
    case qh24 => go_light; go_simp; constructor <;> rfl
    case qc24 => exact (HHH.out W).mono (fun e w' h => ⟨h.1, Gr.trans hW h.2⟩)
    simp only [Pu]
    refine r_val (v := ?_) (by kernel_rfl) (fun W hW => ?_) ?_; rotate_left; (focus go_light; go_simp; rfl); simp only [Pu]
    refine r_nil ?_
    intro w8 hw8
    have HG8 := Lib.hid (HGC.out.trans hw8)
    have e0D := (Below.cell hw8 (p := ⟨Bw, 0, none⟩) hzwC).trans e0C
    have e1D := (Below.cell hw8 (p := ⟨Bw, 1, none⟩) hzwC).trans e1C
    clear e0C e1C hw8 q0 q3 k2C HHH
    cases hb with
    | true =>
     have HSEL : Hid (SelB code s.data.toList p k) := Lib.hid ⟨HKL.out, by simpa using hps2, by rw [HVV.out], by
      rw [HVV.out]
      exact HHB.out.symm⟩
     have HI8 := Lib.hid (HI.out.go HG8.out)
     have HGX := HG8
     clear HG8
     have HG8 := Lib.hid HI8.out.gr
     have HAD := Lib.hid (padds_any w.heap.size hw (w.heap.size + 1) w.heap.size nB' n cA G (some ad) code s (p + 1) Q (.slice (some ⟨a, 0, none⟩) ms cs) ((k : Int) + 1) w8 v' W' Wn' S'
      HCC.out.1 hn2 (by have := HI8.out.nb; omega) hs (by omega) ((Below.cell HG8.out (p := ⟨hw, 0, none⟩) hw0).trans HK.out.1) ((Below.cell HG8.out (p := ⟨hw, 1, none⟩) hw0).trans HK.out.2.1) ((Below.cell HG8.out (p := ⟨hw, 2, none⟩) hw0).trans HK.out.2.2) (HR.out.gr HG8.out)
      (fun e => by rcases e with e | e | e; omega; omega; have := HI8.out.ov _ e.symm; omega) (fun _ ad' e' e => by injection e' with e'; subst e'; have h1 := HAB.out; rcases e with e | e | e; omega; omega; have := HI8.out.ov _ e.symm; omega)
      HI8.out.ls HG8.out.size (PlX.new HPX.out HG8.out (fun x hx e => by rcases e with e | e | e; omega; omega; have := HI8.out.ov _ e.symm; omega)) HI8.out.wn HI8.out.law (HQ.out.1 k HKM.out HSEL.out) HQ.out.2)
     go_wp2_with (go_at_call 55; refine HAD.out.mono ?_; rintro e w2 r; obtain ⟨rfl, -⟩ := id r; have HF := Lib.hid (HI.out.added HGX.out HJN.out HN7.out r); clear r)
     go_roundw
     case rel => exact ⟨j + 1, by omega, by go_num, HF.out⟩
     case measure => simp [intOf]; omega
    | false =>
     have HF := Lib.hid (HI.out.skip HG8.out HJN.out HN7.out (by
      rintro ⟨hk, hp', h1, h2⟩
      rw [HVV.out] at h2
      exact absurd (HHB.out.trans h2) (by decide)))
     go_wp2
     go_roundw
     case rel => exact ⟨j + 1, by omega, by go_num, HF.out⟩
     case measure => simp [intOf]; omega
   ·
    have n1 : decide ((p : Int) < (s.size : Int)) = false := decide_eq_false (by omega)
    go_upto_region 8 with (fail)
    refine region_R (by kernel_rfl) (by kernel_rfl) ?_
    iterate 4 (refine r_val (v := ?_) (by kernel_rfl) (fun W hW => ?_) ?_; rotate_left; (focus go_light; go_simp; rfl); simp only [Pu])
    refine r_val (v := ?qv30) (by kernel_rfl) (fun W hW => ?qh30) ?qr30
    case qh30 => have g1 := (Below.cell hW (p := ⟨hw, 2, none⟩) hhwC).trans k2C; go_light; go_simp; rfl
    simp only [Pu]
    iterate 3 (refine r_val (v := ?_) (by kernel_rfl) (fun W hW => ?_) ?_; rotate_left; (focus go_light; go_simp; rfl); simp only [Pu])
    iterate 9 (refine r_skip (by kernel_rfl) ?_; simp only [Pu])
    refine r_val (v := ?_) (by kernel_rfl) (fun W hW => ?_) ?_; rotate_left; (focus go_light; go_simp; rfl); simp only [Pu]
    refine r_nil ?_
    intro w8 hw8
    have HF := Lib.hid (HI.out.skip (HGC.out.trans hw8) HJN.out HN7.out (by
     rintro ⟨hk, hp', h1, h2⟩
     exact hps2 (by simpa using hp')))
    clear hw8
    go_wp2
    go_roundw
    case rel => exact ⟨j + 1, by omega, by go_num, HF.out⟩
    case measure => simp [intOf]; omega
  ·
   have hje : j = W.length := by omega
   rw [hje, HCC.out.2] at hR
   have HF := Lib.hid (RetSt.none hR)
   clear hR
   have hjw : ¬ (j : Int) < (W.length : Int) := by omega
   clear hje
   go_wp2
   go_ret3
   exact HF.out
end Go.Proofs.YtjapddfnpmlifaaGreatDoor
namespace Go.Proofs.YtjapddfnpmlifaaGreatDoor
set_option linter.unusedVariables false
set_option linter.unusedSimpArgs false
open Go.RowKit

theorem info_intP : (Tryz.prog.info? 3).map (fun i => (i.zero, i.size, i.bytes)) = some (some (.int .i64 0), 1, 8) := by kernel_rfl
/-- block g is a row of m ints. -/
def IRow (w : World) (g m : Nat) : Prop := ∃ cur : List Value, cur.length = m ∧ (∀ v ∈ cur, ∃ z : Int, v = .int .i64 z) ∧ w.heap[g]? = some (.cells cur.toArray 3 (0, 0))
theorem IRow.lt {w : World} {g m : Nat} (h : IRow w g m) : g < w.heap.size := by
 obtain ⟨cur, -, -, hh⟩ := h
 exact (Array.getElem?_eq_some_iff.1 hh).1
theorem IRow.plc {w : World} {g m : Nat} (h : IRow w g m) (h0 : 0 < m) (hm : m ≤ 3000) : Plc w (.slice (some ⟨g, 0, none⟩) m m) g m := by
 have hlt := h.lt
 obtain ⟨cur, hl, hz, hh⟩ := h
 refine ⟨m, rfl, h0, hm, hlt, fun j hj => ?_⟩
 obtain ⟨z, e⟩ := hz (cur[j]'(by omega)) (List.getElem_mem _)
 exact ⟨z, (cell_of_row _ _ _ _ _ _ hh).trans (by simp [← e, hl, hj])⟩
theorem IRow.made (w : World) (N : Nat) : IRow (w.alloc (.cells (madeCells (Value.int .i64 0).cells N) 3)) w.heap.size N := by
 refine ⟨(madeCells (Value.int .i64 0).cells N).toList, by simp [madeCells], fun v hv => ?_, ?_⟩
 ·
  simp [madeCells, Value.cells] at hv
  obtain ⟨a, _, rfl⟩ := hv
  exact ⟨0, by simp [Nat.mod_one]⟩
 ·
  rw [Array.toArray_toList]
  exact heap_alloc_new w _
theorem splice_ints {cur cs : List Value} {o : Nat} (h1 : ∀ v ∈ cur, ∃ z : Int, v = .int .i64 z) (h2 : ∀ v ∈ cs, ∃ z : Int, v = .int .i64 z) : ∀ v ∈ splice cur o cs, ∃ z : Int, v = .int .i64 z := by
 intro v hv
 unfold splice at hv
 rw [List.mem_append, List.mem_append] at hv
 rcases hv with hv | hv | hv
 ·
  exact h1 v (List.mem_of_mem_take hv)
 ·
  exact h2 v hv
 ·
  exact h1 v (List.mem_of_mem_drop hv)
theorem splice_len {cur cs : List Value} {o : Nat} (h : o + cs.length ≤ cur.length) : (splice cur o cs).length = cur.length := by
 unfold splice
 simp only [List.length_append, List.length_take, List.length_drop]
 omega
def RetRp (m : Nat) (w : World) (e : Ending) (w' : World) : Prop := ∃ v a, e = .returned v ∧ Plc w' v a m ∧ Gr w w' ∧ w.heap.size ≤ a
theorem pint_one {l : List Value} (h : ∀ v ∈ l, ∃ z : Int, v = .int .i64 z) : ∀ v ∈ l, v.oneCell' = true := fun v hv => by obtain ⟨z, rfl⟩ := h v hv; rfl
section
variable {P : Program}
theorem wp_copy_splice {o : Oper} {a : Act} {w : World} {K : Act → World → Prop} {Q : Exit → Act → World → Prop} (hgd : o.guard = none) (d s : Operand) (dT sT : TypeId)
  (ho : o.op = .call { callee := .builtin .copy, args := #[d, s], argTypes := #[dT, sT] }) (elem : TypeId) (hu : P.underlying dT = some (.slice elem)) (hsz : (P.info? elem).map (·.size) = some 1)
  (dp sp : Option Addr) (dLen dCap sLen sCap : Nat) (hd : a.eval d = .slice dp dLen dCap) (hs : a.eval s = .slice sp sLen sCap)
  (g off : Nat) (cur : List Value) (t : TypeId) (hg : w.heap[g]? = some (.cells cur.toArray t (0, 0))) (cs : List Value) (hn : cs.length = Nat.min sLen dLen)
  (hpos : 0 < cs.length → dp = some ⟨g, off, none⟩ ∧ ∃ ad, sp = some ad ∧ ∀ j v, cs[j]? = some v → w.cell? (ad.add j) = some v)
  (hfit : off + cs.length ≤ cur.length) (h1 : ∀ v ∈ cs, v.oneCell' = true) (B : Nat) (w0 : World) (hb : RowKit.Below B w0 w) (hBg : B ≤ g)
  (h : ∀ w', RowKit.Hid (w'.heap[g]? = some (.cells (splice cur off cs).toArray t (0, 0))) → RowKit.Below B w0 w' → K (a.put o.dst (goInt cs.length)) w') : Oper.wp P o a w K Q := by
 have h1 := step_copy_splice (E := False) (ops := #[]) hgd d s dT sT ho elem hu hsz dp sp dLen dCap sLen sCap hd hs g off cur t hg cs hn hpos hfit h1 B w0 hb hBg h (Q := Q)
 rwa [if_pos (by simp [Region.wanted, hgd])] at h1
end
theorem add_zero_blk (b j : Nat) : (⟨b, 0, none⟩ : Addr).add j = ⟨b, j, none⟩ := by
 unfold Addr.add; split
 ·
  rename_i h; subst h; rfl
 ·
  rw [Nat.zero_add]
set_option maxRecDepth 100000 in
set_option maxHeartbeats 6400000 in
theorem repeat_any (b m : Nat) (z : Int) (w : World) (hm : 2 ≤ m) (hm3 : m ≤ 3000) (hc : w.cell? ⟨b, 0, none⟩ = some (.int .i64 z)) :
  Calls Tryz.prog 54 #[.slice (some ⟨b, 0, none⟩) 1 1, .int .i64 m] w (RetRp m w) := by
 obtain ⟨j0, hj0, jz0, jz1, jz2⟩ := info_parts info_intP
 have hmi : (m : Int) ≤ 3000 := by omega
 have hm2 : (2 : Int) ≤ (m : Int) := by omega
 have hmu := Tryz.bits_Mul 1 m (by omega) (by omega) w
 rw [show (1 * m / 18446744073709551616 : Nat) = 0 by omega, show (1 * m % 18446744073709551616 : Nat) = m by omega] at hmu
 have HMU := Lib.hid hmu
 have hbz := World.block_lt_of_cell? _ _ hc
 have hms : ∀ W, (Instr.makeSlice 90 (.int .i64 (m : Nat)) (.int .i64 (m : Nat))).run Tryz.prog W = .ok (.slice (some ⟨W.heap.size, 0, none⟩) m m) (W.alloc (.cells (madeCells (Value.int .i64 0).cells m) 3)) := fun W => by
  have := run_makeSlice (P := Tryz.prog) (w := W) 90 3 j0 (.int .i64 0) Tryz.underlying90 hj0 jz0 .i64 .i64 (m : Int) (m : Int) (by omega) (Int.le_refl _) (by rw [jz1]; simp; omega) (by rw [jz2]; omega) (by omega)
  rw [jz1, Nat.mul_one, Int.toNat_natCast] at this
  exact this
 clear hmu
 obtain ⟨cur0, hl0, hz0, hh0⟩ := IRow.made w m
 have hsz : (Tryz.prog.info? 3).map (·.size) = some 1 := by kernel_rfl
 have gA : Gr w (w.alloc (.cells (madeCells (Value.int .i64 0).cells m) 3)) := Gr.alloc (Gr.refl w) _
 have hcA := (Below.cell gA (p := ⟨b, 0, none⟩) hbz).trans hc
 go_enter Tryz.func54, Tryz.ntmps54
 go_wp2_with (first | (go_at_call 88; refine HMU.out.mono ?_; rintro e w' ⟨rfl, hww⟩; obtain rfl : w = w' := hww.symm) | ((with_reducible change wpList _ _ _ (⟨some 33, _, _, _, _, _⟩ :: _) _ _); refine wpList_copy_splice rfl (.tmp 31) (.tmp 32) 90 90 rfl 3 Tryz.underlying90 hsz (some ⟨w.heap.size, 0, none⟩) (some ⟨b, 0, none⟩) m m 1 1 (by rfl) (by rfl) w.heap.size 0 cur0 3 hh0 [.int .i64 z] (Nat.min_eq_left (by omega : 1 ≤ m)).symm (fun _ => ⟨rfl, _, rfl, fun j v hv => by rw [add_zero_blk]; rcases j with _ | j; (simp at hv; rw [← hv]; exact hcA); (simp at hv)⟩) (by simp; omega) (by simp [Value.oneCell']) w.heap.size w gA (Nat.le_refl _) ?_; intro w2 hh2 hb2))
 have hI2 : IRow w2 w.heap.size m := ⟨_, by rw [splice_len (by simp; omega)]; exact hl0, splice_ints hz0 (by simp), hh2⟩
 have HI2 := Lib.hid (And.intro hI2 hb2)
 obtain ⟨g, hg⟩ : ∃ g, g = w.heap.size := ⟨_, rfl⟩
 rw [← hg] at HI2 ⊢
 have HG := Lib.hid hg
 clear hI2 hb2 hh2 hg hh0 hz0 hl0 gA hcA hc hms HMU
 go_loopw [8] (fun v wr => ∃ k : Nat, 1 ≤ k ∧ k ≤ m ∧ v = .int .i64 k ∧ Below g w wr ∧ IRow wr g m) (fun v _ => m - (intOf v).toNat)
 case atStart => exact ⟨1, Nat.le_refl _, by omega, rfl, HI2.out.2, HI2.out.1⟩
 case round =>
  obtain ⟨k, hk1, hkm, rfl, hbr, hI⟩ := hrel
  clear HI2
  have hki : (1 : Int) ≤ (k : Int) := by omega
  have hkmi : (k : Int) ≤ (m : Int) := by omega
  by_cases hlt : k < m
  ·
   have hlti : (k : Int) < (m : Int) := by omega
   have hgz := hI.lt
   obtain ⟨cur, hl, hz, hh⟩ := hI
   obtain ⟨c, hcd⟩ : ∃ c, c = Nat.min k (m - k) := ⟨_, rfl⟩
   have hc1 : 1 ≤ c ∧ c ≤ k ∧ k + c ≤ m := by rw [hcd]; simp only [Nat.min_def]; split <;> omega
   have HCD := Lib.hid hcd
   clear hcd
   have hwr : IntKind.i64.wrap ((k : Int) + (c : Int)) = (k : Int) + (c : Int) := IntWalk.i64_in _ (by omega)
   have hcl : (cur.take c).length = c := by rw [List.length_take]; omega
   have HH := Lib.hid (And.intro hh (And.intro hl hz))
   have HB := Lib.hid hbr
   have HCL := Lib.hid hcl
   have HC1 := Lib.hid hc1
   clear hh hl hz hbr hcl
   go_upto_region 9 with (fail)
   refine wp_region_Z 9 (fun _ => True) (by kernel_rfl) ?_
   have hS0 : True := True.intro
   refine wpAnyZ_take (i := 0) (v := ?v1) rfl (by kernel_rfl) (fun _ _ _ h => h) (by rfl) (fun W hS => ?h1) hS0 ?r1
   case h1 => go_simp; rfl
   simp only [Act.put, List.getElem_toArray, List.getElem_cons_succ, List.getElem_cons_zero, List.setIfInBounds_toArray, List.set_cons_zero, List.set_cons_succ]
   refine wpAnyZ_take (i := 1) (v := ?v2) rfl (by kernel_rfl) (fun _ _ _ h => h) (by rfl) (fun W hS => ?h2) hS0 ?r2
   case h2 => go_simp; rfl
   simp only [Act.put, List.getElem_toArray, List.getElem_cons_succ, List.getElem_cons_zero, List.setIfInBounds_toArray, List.set_cons_zero, List.set_cons_succ]
   refine wpAnyZ_take (i := 2) (v := ?v3) rfl (by kernel_rfl) (fun _ _ _ h => h) (by rfl) (fun W hS => ?h3) hS0 ?r3
   case h3 => go_simp; rfl
   simp only [Act.put, List.getElem_toArray, List.getElem_cons_succ, List.getElem_cons_zero, List.setIfInBounds_toArray, List.set_cons_zero, List.set_cons_succ]
   refine wpAnyZ_take (i := 3) (v := ?v4) rfl (by kernel_rfl) (fun _ _ _ h => h) (by rfl) (fun W hS => ?h4) hS0 ?r4
   case h4 => go_simp; rfl
   simp only [Act.put, List.getElem_toArray, List.getElem_cons_succ, List.getElem_cons_zero, List.setIfInBounds_toArray, List.set_cons_zero, List.set_cons_succ]
   refine wpAnyZ_take (i := 4) (v := ?v5) rfl (by kernel_rfl) (fun _ _ _ h => h) (by rfl) (fun W hS => ?h5) hS0 ?r5
   case h5 => go_simp; rfl
   simp only [Act.put, List.getElem_toArray, List.getElem_cons_succ, List.getElem_cons_zero, List.setIfInBounds_toArray, List.set_cons_zero, List.set_cons_succ]
   refine wpAnyZ_take (i := 5) (v := ?v6) rfl (by kernel_rfl) (fun _ _ _ h => h) (by rfl) (fun W hS => ?h6) hS0 ?r6
   case h6 => go_simp; rfl
   simp only [Act.put, List.getElem_toArray, List.getElem_cons_succ, List.getElem_cons_zero, List.setIfInBounds_toArray, List.set_cons_zero, List.set_cons_succ]
   refine wpAnyZ_take (i := 6) (v := ?v7) rfl (by kernel_rfl) (fun _ _ _ h => h) (by rfl) (fun W hS => ?h7) hS0 ?r7
   case h7 => go_simp; rfl
   simp only [Act.put, List.getElem_toArray, List.getElem_cons_succ, List.getElem_cons_zero, List.setIfInBounds_toArray, List.set_cons_zero, List.set_cons_succ]
   refine wpAnyZ_ready (rs := [7]) (by kernel_rfl) (by simp) ?_
   refine AllReadyZ.cons rfl (by rfl) (fun K hK => ?_) ?_
   rotate_left
   exact AllReadyZ.nil
   refine wp_copy_splice rfl (.tmp 41) (.tmp 44) 90 90 rfl 3 Tryz.underlying90 hsz (if m = k then some ⟨g, 0, none⟩ else some ⟨g, k, none⟩) (some ⟨g, 0, none⟩) (m - k) (m - k) k m (by rfl) (by rfl) g k cur 3 (by exact HH.out.1) (cur.take c) (by rw [HCL.out, HCD.out]) (fun _ => ⟨if_neg (by omega), _, rfl, fun j v hv => by
    rw [add_zero_blk]
    refine (cell_of_row _ _ _ _ _ _ HH.out.1).trans ?_
    rw [List.getElem?_take] at hv
    split at hv
    ·
     simpa using hv
    ·
     cases hv⟩) (by rw [HCL.out, HH.out.2.1]; exact HC1.out.2.2) (pint_one (fun v hv => HH.out.2.2 v (List.mem_of_mem_take hv))) g w (by exact HB.out.drew) (Nat.le_refl _) ?_
   intro w3 hh3 hb3
   rw [HCL.out]
   have HI3 : Hid (Below g w w3 ∧ IRow w3 g m) := Lib.hid ⟨hb3, _, by rw [splice_len (by rw [HCL.out, HH.out.2.1]; exact HC1.out.2.2)]; exact HH.out.2.1, splice_ints HH.out.2.2 (fun v hv => HH.out.2.2 v (List.mem_of_mem_take hv)), hh3⟩
   clear hh3 hb3
   refine hK.out _ _ (fun hnz => ?s8) (fun _ => ?r8)
   case s8 => exact True.intro
   clear hK K
   try simp only [Pu, List.getElem_toArray, List.getElem_cons_succ, List.getElem_cons_zero]
   refine wpAnyZ_take (i := 8) (v := ?v9) rfl (by kernel_rfl) (fun _ _ _ h => h) (by rfl) (fun W hS => ?h9) hS0 ?r9
   case h9 => go_simp; rfl
   simp only [Act.put, List.getElem_toArray, List.getElem_cons_succ, List.getElem_cons_zero, List.setIfInBounds_toArray, List.set_cons_zero, List.set_cons_succ]
   refine wpAnyZ_ready (rs := [9]) (by kernel_rfl) (by simp) ?_
   refine AllReadyZ.cons rfl (by rfl) (fun K hK => ?_) ?_
   rotate_left
   exact AllReadyZ.nil
   go_wp2_with fail
   refine hK.out _ _ (fun hnz => ?s10) (fun _ => ?r10)
   case s10 => exact absurd rfl hnz
   clear hK K
   try simp only [Pu, List.getElem_toArray, List.getElem_cons_succ, List.getElem_cons_zero]
   refine wpAnyZ_done (by kernel_rfl) ?_ _
   clear hwr
   go_wp2
   go_roundw
   case rel => exact ⟨k + c, by omega, HC1.out.2.2, by go_num, HI3.out.1, HI3.out.2⟩
   case measure => simp [intOf]; have := HC1.out; omega
  ·
   have hmk : k = m := by omega
   subst hmk
   have HF : Hid (RetRp k w (.returned (.slice (some ⟨g, 0, none⟩) k k)) wr) := Lib.hid ⟨_, g, rfl, hI.plc (by omega) hm3, by rw [HG.out] at hbr; exact hbr, Nat.le_of_eq HG.out.symm⟩
   clear hI hbr hlt
   go_wp2
   go_ret
   exact HF.out
end Go.Proofs.YtjapddfnpmlifaaGreatDoor
