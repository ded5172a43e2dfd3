/- stroke of the reference's reader: a stroke and a byte. · item and sixAt of the reference's reader: a byte of a class, or one of the six. · sixAt of the reference's reader; item in the words of sideS; arrays of bools against none. -/
import Derived.Test.YtpcmdijgepbilaaMgRD
namespace Go.Proofs.Ytpcmdijgepbilaa
set_option linter.unusedVariables false
set_option linter.unusedSimpArgs false
open Go.RowKit

section
variable {P : Program}
theorem exec_load_row {o : Oper} {ev : Operand → Value} {W : World} (ty : TypeId) (x : Operand) (ho : o.op = .load ty x)
    (g : Nat) (hx : ev x = .pointer (some ⟨g, 0, none⟩)) {t : TypeId} {cs : Array Value} {fr : Nat × Nat} {d : TypeDesc} (hg : W.heap[g]? = some (.cells cs t fr))
    (hu : P.underlying ty = some d) (hd : (match d with | .struct _ | .array _ _ => true | _ => false) = true) (hi : (P.info? ty).map (·.size) = some cs.size) : (execOp ev o).run P W = .ok (.value (.agg cs)) W := by
  unfold execOp
  simp only [ho, hx, Instr.loadAt, Instr.sureAddr, Sem.run_bind, Sem.run_pure, Result.andThen_ok, run_loadVar_row W g t ty cs fr d hg hu hd hi]
end
theorem res_arr3 (fn : Func) (a p q : Tmp) (h : fn.results = #[.tmp a, .cell p 72, .tmp q]) (tmps : Array Value) (w : World) (g : Nat) (f : Bs) (x b : Value) (ha : tmps.getD a undef = x) (hp : tmps.getD p undef = .pointer (some ⟨g, 0, none⟩)) (hq : tmps.getD q undef = b) (hs : SetQ w g f) :
    (results fn tmps).run Try.prog w = .ok (.tuple #[x, .agg (bsA f), b]) w := by
  have ha' : tmps[a]?.getD undef = x := by simpa using ha
  have hp' : tmps[p]?.getD undef = .pointer (some ⟨g, 0, none⟩) := by simpa using hp
  have hq' : tmps[q]?.getD undef = b := by simpa using hq
  simp [results, h, ha', hp', hq', asAddr, run_loadVar_row w g _ 72 (bsA f) (0, 0) _ hs und_arr rfl (size_bsQ _)]
theorem SetQ.rowother {w : World} {g g' : Nat} {f : Bs} (h : SetQ w g f) (hn : g ≠ g') (cs : Array Value) : SetQ (w.setRow g' cs) g f := (setRow_other w g' g cs (by omega)).trans h
theorem isWord_aln (c : Nat) : isWordB c = alnB c := by
  rw [Bool.eq_iff_iff]
  unfold isWordB
  rw [Bool.and_eq_true, wordB_iff, aln_iff]
  simp
  omega
/-- a byte or a set has been read. -/
def RetX (w : World) (R : Nat) (s : ByteArray) (n d e g : Nat) (A : Option Addr) (code : List In) (c : Nat) (f : Bs) (ok : Bool) (x : Ending) (w' : World) : Prop :=
  x = .returned (.tuple #[.int .u8 c, .agg (bsA f), .bool ok]) ∧ RfW w' R s n d e g A code ∧ GX R w w'
theorem RfW.row' {w : World} {R n d e g k : Nat} {s : ByteArray} {A : Option Addr} {code : List In} (h : RfW w R s n d e g A code) {cs : Array Value} (hR : k ≠ R) (hk : blk A ≠ some k) : RfW (w.setRow k cs) R s n d e g A code :=
  h.kept (by simp) (setRow_other w k R cs (by omega)) fun j hj => setRow_other w k j cs (fun e => hk (by rw [hj]; congr 1))

set_option maxRecDepth 100000 in
set_option maxHeartbeats 3200000 in
theorem stroke_end {w : World} {R n d e g : Nat} {s : ByteArray} {A : Option Addr} {code : List In} (h : RfW w R s n d e g A code) (hs : (s.size : Int) ≤ 4096) (hn : n + 1 = s.size) : Calls Try.prog 52 #[.pointer (some ⟨R, 0, none⟩)] w (RetX w R s n d e g A code 0 noB false) := by
  obtain ⟨hz0, hsz0⟩ := zero_of_info info_arr
  have g0 : Gr w ((w.alloc (Obj.cells (bsA noB) 72)).alloc (Obj.cells (bsA noB) 72)) := (by repeat (first | exact Gr.refl _ | refine Gr.alloc ?_ _ | refine Gr.drew ?_ | refine Gr.setCell ?_ (by first | (simp; done) | (simp; omega) | omega) _ | refine Gr.trans ?_ (by assumption)))
  have s0 : SetQ ((w.alloc (Obj.cells (bsA noB) 72)).alloc (Obj.cells (bsA noB) 72)) w.heap.size noB := (SetQ.new w noB).gr (Gr.alloc (Gr.refl _) _)
  have s1 : SetQ ((w.alloc (Obj.cells (bsA noB) 72)).alloc (Obj.cells (bsA noB) 72)) (w.heap.size + 1) noB := by
    have := SetQ.new (w.alloc (Obj.cells (bsA noB) 72)) noB
    simpa using this
  have hlt := h.lt
  have hn1 : (s.size : Int) ≤ (n : Int) + 1 := by omega
  have hn2 : s.size ≤ n + 1 := by omega
  have hn3 : (n : Int) ≤ 4096 := by omega
  have hw1 : IntKind.i64.wrap ((n : Int) + 1) = (n : Int) + 1 := IntWalk.i64_in _ (by omega)
  clear hn
  go_enter Try.func52, Try.ntmps52
  go_upto_region 2 with (fail)
  generalize ((w.alloc (Obj.cells (bsA noB) 72)).alloc (Obj.cells (bsA noB) 72)) = w0 at g0 s0 s1 ⊢
  clear hz0 hsz0
  have h0 := h.gr g0
  have hz : R < w0.heap.size := h0.lt
  obtain ⟨cc, hc⟩ := id h0
  obtain ⟨c0, c1⟩ := And.intro hc.c0 hc.c1
  have hzw : w.heap.size + 1 < w0.heap.size := s1.lt
  clear hc
  refine region_Q (by kernel_rfl) (by kernel_rfl) ?_
  refine q_val (v := ?qv1) (by rfl) (fun W hW => ?qh1) ?qr1
  case qh1 =>
    go_simp
    rfl
  simp only [Act.put, List.setIfInBounds_toArray, List.set_cons_zero, List.set_cons_succ]
  refine q_val (v := ?qv2) (by rfl) (fun W hW => ?qh2) ?qr2
  case qh2 =>
    go_simp
    rfl
  simp only [Act.put, List.setIfInBounds_toArray, List.set_cons_zero, List.set_cons_succ]
  refine q_val (v := ?qv3) (by rfl) (fun W hW => ?qh3) ?qr3
  case qh3 =>
    go_simp
    rfl
  simp only [Act.put, List.setIfInBounds_toArray, List.set_cons_zero, List.set_cons_succ]
  refine q_val (v := ?qv4) (by rfl) (fun W hW => ?qh4) ?qr4
  case qh4 =>
    have q1 := (Below.cell hW (p := ⟨R, 1, none⟩) hz).trans c1
    go_simp
    rfl
  simp only [Act.put, List.setIfInBounds_toArray, List.set_cons_zero, List.set_cons_succ]
  refine q_val (v := ?qv5) (by rfl) (fun W hW => ?qh5) ?qr5
  case qh5 =>
    go_simp
    rfl
  simp only [Act.put, List.setIfInBounds_toArray, List.set_cons_zero, List.set_cons_succ]
  refine q_val (v := ?qv6) (by rfl) (fun W hW => ?qh6) ?qr6
  case qh6 =>
    go_simp
    rfl
  simp only [Act.put, List.setIfInBounds_toArray, List.set_cons_zero, List.set_cons_succ]
  refine q_val (v := ?qv7) (by rfl) (fun W hW => ?qh7) ?qr7
  case qh7 =>
    go_simp
    rfl
  simp only [Act.put, List.setIfInBounds_toArray, List.set_cons_zero, List.set_cons_succ]
  refine q_val (v := ?qv8) (by rfl) (fun W hW => ?qh8) ?qr8
  case qh8 =>
    go_simp
    rfl
  simp only [Act.put, List.setIfInBounds_toArray, List.set_cons_zero, List.set_cons_succ]
  refine q_val (v := ?qv9) (by rfl) (fun W hW => ?qh9) ?qr9
  case qh9 =>
    have q0 := (Below.cell hW (p := ⟨R, 0, none⟩) hz).trans c0
    go_simp
    rfl
  simp only [Act.put, List.setIfInBounds_toArray, List.set_cons_zero, List.set_cons_succ]
  refine q_val (v := ?qv10) (by rfl) (fun W hW => ?qh10) ?qr10
  case qh10 =>
    go_simp
    rfl
  simp only [Act.put, List.setIfInBounds_toArray, List.set_cons_zero, List.set_cons_succ]
  refine q_val (v := ?qv11) (by rfl) (fun W hW => ?qh11) ?qr11
  case qh11 =>
    go_simp
    rfl
  simp only [Act.put, List.setIfInBounds_toArray, List.set_cons_zero, List.set_cons_succ]
  refine wpQuiet_nil ?_
  intro w1 hw1
  have s01 := s0.gr hw1
  have s11 := s1.gr hw1
  have h1 := h0.gr hw1
  have hrow := h.row
  have hz1 := hw1.size
  have G1 := g0.trans hw1
  clear c0 c1 s0 s1
  go_upto_region 3 with (fail)
  refine wp_region_Z 3 (fun W => SetQ W (w.heap.size + 1) noB) (by kernel_rfl) ?_
  have hS0a : SetQ w1.drew (w.heap.size + 1) noB := s11
  have hDa : SetQ w1.drew w.heap.size noB := s01
  refine wpAnyZ_take (i := 0) (v := .agg (bsA noB)) rfl (by kernel_rfl) (fun _ _ _ h => h) (by rfl) (fun W hS => ?h8) hS0a ?r8
  case h8 =>
    simp only [List.getElem_toArray, List.getElem_cons_succ, List.getElem_cons_zero]
    exact exec_load_row _ _ rfl (w.heap.size + 1) rfl hS und_arr rfl (size_bsQ _)
  simp only [Act.put, List.getElem_toArray, List.getElem_cons_succ, List.getElem_cons_zero, List.setIfInBounds_toArray, List.set_cons_zero, List.set_cons_succ]
  refine wpAnyZ_take (i := 1) (v := ?v9) rfl (by kernel_rfl) (fun _ _ _ h => h) (by rfl) (fun W hS => ?h9) hS0a ?r9
  case h9 =>
    go_simp
    rfl
  simp only [Act.put, List.getElem_toArray, List.getElem_cons_succ, List.getElem_cons_zero, List.setIfInBounds_toArray, List.set_cons_zero, List.set_cons_succ]
  refine wpAnyZ_ready (rs := [2]) (by kernel_rfl) (by simp) ?_
  refine AllReadyZ.cons (i := 2) rfl (by kernel_rfl) ?zxa2 AllReadyZ.nil
  intro K hK
  simp only [List.getElem_toArray, List.getElem_cons_succ, List.getElem_cons_zero]
  refine wp_store_row _ _ _ rfl w.heap.size (bsA noB) rfl rfl _ _ hDa (size_bsQ _) (by simp only [bsA_size]) (bsA_one _) ?_
  have hS1a : SetQ (w1.drew.setRow w.heap.size (bsA noB)) (w.heap.size + 1) noB := SetQ.rowother hS0a (by omega) _
  refine hK.out _ _ (fun hnz => ?zsa2) (fun _ => ?zra2)
  case zsa2 => exact hS1a
  clear hK K
  try (simp only [Act.put, List.getElem_toArray, List.getElem_cons_succ, List.getElem_cons_zero, List.setIfInBounds_toArray, List.set_cons_zero, List.set_cons_succ])
  refine wpAnyZ_ready (rs := [3]) (by kernel_rfl) (by simp) ?_
  refine AllReadyZ.cons (i := 3) rfl (by kernel_rfl) ?zxa3 AllReadyZ.nil
  intro K hK
  simp only [List.getElem_toArray, List.getElem_cons_succ, List.getElem_cons_zero]
  go_simp
  refine hK.out _ _ (fun hnz => ?zsa3) (fun _ => ?zra3)
  case zsa3 => exact absurd rfl hnz
  clear hK K
  try (simp only [Act.put, List.getElem_toArray, List.getElem_cons_succ, List.getElem_cons_zero, List.setIfInBounds_toArray, List.set_cons_zero, List.set_cons_succ])
  refine wpAnyZ_done (by kernel_rfl) ?_ _
  go_wp2
  exact bodyPost_ret (v := .tuple #[.int .u8 0, .agg (bsA noB), .bool false]) (res_arr3 _ 2 3 4 (by kernel_rfl) _ _ w.heap.size _ _ _ rfl rfl rfl (SetQ.row hDa)) rfl ⟨rfl, (h1.gr (Gr.drew (Gr.refl _))).row' (by omega) (fun e => by have := (hrow _ e).2; omega), GX.of_gr (Gr.setRow G1.drew (Nat.le_refl _) _)⟩
set_option maxRecDepth 100000 in
set_option maxHeartbeats 3200000 in
theorem stroke_named {w : World} {R n d e g : Nat} {s : ByteArray} {A : Option Addr} {code : List In} (h : RfW w R s n d e g A code) (hs : (s.size : Int) ≤ 4096) (hn : n + 1 < s.size) {F : Bs} (hf : namedB (s[n + 1].toNat) = some F) : Calls Try.prog 52 #[.pointer (some ⟨R, 0, none⟩)] w (RetX w R s (n + 2) d e g A code 0 F true) := by
  obtain ⟨hz0, hsz0⟩ := zero_of_info info_arr
  have g0 : Gr w ((w.alloc (Obj.cells (bsA noB) 72)).alloc (Obj.cells (bsA noB) 72)) := (by repeat (first | exact Gr.refl _ | refine Gr.alloc ?_ _ | refine Gr.drew ?_ | refine Gr.setCell ?_ (by first | (simp; done) | (simp; omega) | omega) _ | refine Gr.trans ?_ (by assumption)))
  have s0 : SetQ ((w.alloc (Obj.cells (bsA noB) 72)).alloc (Obj.cells (bsA noB) 72)) w.heap.size noB := (SetQ.new w noB).gr (Gr.alloc (Gr.refl _) _)
  have s1 : SetQ ((w.alloc (Obj.cells (bsA noB) 72)).alloc (Obj.cells (bsA noB) 72)) (w.heap.size + 1) noB := by
    have := SetQ.new (w.alloc (Obj.cells (bsA noB) 72)) noB
    simpa using this
  have hlt := h.lt
  have hn1 : ¬ (s.size : Int) ≤ (n : Int) + 1 := by omega
  have hn2 : ¬ s.size ≤ n + 1 := by omega
  have hn3 : (n : Int) + 1 < (s.size : Int) := by omega
  have hn4 : (n : Int) ≤ 4096 := by omega
  have hw1 : IntKind.i64.wrap ((n : Int) + 1) = (n : Int) + 1 := IntWalk.i64_in _ (by omega)
  obtain ⟨x, hx⟩ : ∃ x, x = s[n + 1].toNat := ⟨_, rfl⟩
  rw [← hx] at hf 
  have hx256 : x < 256 := by rw [hx]; exact (s[n + 1]).toNat_lt
  have HX := Lib.hid hx
  have HS6 := fun w => six_some x hf w
  have HS6' := Lib.hid HS6
  have HZ := Lib.hid (And.intro hz0 hsz0)
  clear hx hf HS6
  go_enter Try.func52, Try.ntmps52
  go_upto_region 2 with (fail)
  generalize ((w.alloc (Obj.cells (bsA noB) 72)).alloc (Obj.cells (bsA noB) 72)) = w0 at g0 s0 s1 ⊢
  clear hz0 hsz0
  have h0 := h.gr g0
  have hz : R < w0.heap.size := h0.lt
  obtain ⟨cc, hc⟩ := id h0
  obtain ⟨c0, c1⟩ := And.intro hc.c0 hc.c1
  have hzw : w.heap.size + 1 < w0.heap.size := s1.lt
  clear hc
  refine region_Q (by kernel_rfl) (by kernel_rfl) ?_
  refine q_val (v := ?qv12) (by rfl) (fun W hW => ?qh12) ?qr12
  case qh12 =>
    go_simp
    rfl
  simp only [Act.put, List.setIfInBounds_toArray, List.set_cons_zero, List.set_cons_succ]
  refine q_val (v := ?qv13) (by rfl) (fun W hW => ?qh13) ?qr13
  case qh13 =>
    go_simp
    rfl
  simp only [Act.put, List.setIfInBounds_toArray, List.set_cons_zero, List.set_cons_succ]
  refine q_val (v := ?qv14) (by rfl) (fun W hW => ?qh14) ?qr14
  case qh14 =>
    go_simp
    rfl
  simp only [Act.put, List.setIfInBounds_toArray, List.set_cons_zero, List.set_cons_succ]
  refine q_val (v := ?qv15) (by rfl) (fun W hW => ?qh15) ?qr15
  case qh15 =>
    have q1 := (Below.cell hW (p := ⟨R, 1, none⟩) hz).trans c1
    go_simp
    rfl
  simp only [Act.put, List.setIfInBounds_toArray, List.set_cons_zero, List.set_cons_succ]
  refine q_val (v := ?qv16) (by rfl) (fun W hW => ?qh16) ?qr16
  case qh16 =>
    go_simp
    rfl
  simp only [Act.put, List.setIfInBounds_toArray, List.set_cons_zero, List.set_cons_succ]
  refine q_val (v := ?qv17) (by rfl) (fun W hW => ?qh17) ?qr17
  case qh17 =>
    go_simp
    rfl
  simp only [Act.put, List.setIfInBounds_toArray, List.set_cons_zero, List.set_cons_succ]
  refine q_val (v := ?qv18) (by rfl) (fun W hW => ?qh18) ?qr18
  case qh18 =>
    go_simp
    rfl
  simp only [Act.put, List.setIfInBounds_toArray, List.set_cons_zero, List.set_cons_succ]
  refine q_val (v := ?qv19) (by rfl) (fun W hW => ?qh19) ?qr19
  case qh19 =>
    go_simp
    rfl
  simp only [Act.put, List.setIfInBounds_toArray, List.set_cons_zero, List.set_cons_succ]
  refine q_val (v := ?qv20) (by rfl) (fun W hW => ?qh20) ?qr20
  case qh20 =>
    have q0 := (Below.cell hW (p := ⟨R, 0, none⟩) hz).trans c0
    go_simp
    rfl
  simp only [Act.put, List.setIfInBounds_toArray, List.set_cons_zero, List.set_cons_succ]
  refine q_val (v := ?qv21) (by rfl) (fun W hW => ?qh21) ?qr21
  case qh21 =>
    go_simp
    rfl
  simp only [Act.put, List.setIfInBounds_toArray, List.set_cons_zero, List.set_cons_succ]
  refine q_val (v := ?qv22) (by rfl) (fun W hW => ?qh22) ?qr22
  case qh22 =>
    go_simp
    rfl
  simp only [Act.put, List.setIfInBounds_toArray, List.set_cons_zero, List.set_cons_succ]
  refine wpQuiet_nil ?_
  intro w1 hw1
  have s01 := s0.gr hw1
  have h1 := h0.gr hw1
  have s11 := s1.gr hw1
  have G1 := g0.trans hw1
  have hz1 := hw1.size
  have hzR1 : R < w1.heap.size := h1.lt
  obtain ⟨cc1, hc1⟩ := id h1
  clear c0 c1 s0 s1 h0 hz
  obtain ⟨c0, c1⟩ := And.intro hc1.c0 hc1.c1
  clear hc1 hw1
  go_upto_region 4 with (fail)
  refine region_Q (by kernel_rfl) (by kernel_rfl) ?_
  refine q_val (v := ?qv23) (by rfl) (fun W hW => ?qh23) ?qr23
  case qh23 =>
    go_simp
    rfl
  simp only [Act.put, List.setIfInBounds_toArray, List.set_cons_zero, List.set_cons_succ]
  refine q_val (v := ?qv24) (by rfl) (fun W hW => ?qh24) ?qr24
  case qh24 =>
    go_simp
    rfl
  simp only [Act.put, List.setIfInBounds_toArray, List.set_cons_zero, List.set_cons_succ]
  refine q_val (v := ?qv25) (by rfl) (fun W hW => ?qh25) ?qr25
  case qh25 =>
    go_simp
    rfl
  simp only [Act.put, List.setIfInBounds_toArray, List.set_cons_zero, List.set_cons_succ]
  refine q_val (v := ?qv26) (by rfl) (fun W hW => ?qh26) ?qr26
  case qh26 =>
    have q0 := (Below.cell hW (p := ⟨R, 0, none⟩) hzR1).trans c0
    go_simp
    rfl
  simp only [Act.put, List.setIfInBounds_toArray, List.set_cons_zero, List.set_cons_succ]
  refine q_val (v := ?qv27) (by rfl) (fun W hW => ?qh27) ?qr27
  case qh27 =>
    go_simp
    rfl
  simp only [Act.put, List.setIfInBounds_toArray, List.set_cons_zero, List.set_cons_succ]
  refine q_val (v := ?qv28) (by rfl) (fun W hW => ?qh28) ?qr28
  case qh28 =>
    go_simp
    rfl
  simp only [Act.put, List.setIfInBounds_toArray, List.set_cons_zero, List.set_cons_succ]
  refine q_val (v := ?qv29) (by rfl) (fun W hW => ?qh29) ?qr29
  case qh29 =>
    go_simp
    rfl
  simp only [Act.put, List.setIfInBounds_toArray, List.set_cons_zero, List.set_cons_succ]
  refine q_val (v := ?qv30) (by rfl) (fun W hW => ?qh30) ?qr30
  case qh30 =>
    have q1 := (Below.cell hW (p := ⟨R, 1, none⟩) hzR1).trans c1
    go_simp
    rfl
  simp only [Act.put, List.setIfInBounds_toArray, List.set_cons_zero, List.set_cons_succ]
  refine q_val (v := ?qv31) (by rfl) (fun W hW => ?qh31) ?qr31
  case qh31 =>
    go_simp
    rfl
  simp only [Act.put, List.setIfInBounds_toArray, List.set_cons_zero, List.set_cons_succ]
  refine q_val (v := ?qv32) (by rfl) (fun W hW => ?qh32) ?qr32
  case qh32 =>
    go_simp
    rfl
  simp only [Act.put, List.setIfInBounds_toArray, List.set_cons_zero, List.set_cons_succ]
  refine q_val (v := ?qv33) (by rfl) (fun W hW => ?qh33) ?qr33
  case qh33 =>
    go_simp
    rfl
  simp only [Act.put, List.setIfInBounds_toArray, List.set_cons_zero, List.set_cons_succ]
  refine wpQuiet_nil ?_
  intro w2 hw2
  rw [← HX.out]
  have s02 := s01.gr hw2
  have s12 := s11.gr hw2
  have h2 := h1.gr hw2
  have G2 := G1.trans hw2
  have hz2 := hw2.size
  have hzR2 : R < w2.heap.size := h2.lt
  have hrow2 := h2.row
  obtain ⟨cc2, hc2⟩ := id h2
  clear c0 c1 s01 s11 h1 hzR1
  obtain ⟨c1, f1⟩ := And.intro hc2.c1 hc2.f1
  clear hc2
  have h3 : RfW (w2.setCell ⟨R, 1, none⟩ (.int .i64 ((n : Int) + 2))) R s (n + 2) d e g A code := by
    have t := h2.setAt (n + 2)
    rwa [show ((n + 2 : Nat) : Int) = (n : Int) + 2 by omega] at t
  have s03 := s02.other (p := ⟨R, 1, none⟩) (by show w.heap.size ≠ R; omega) (.int .i64 ((n : Int) + 2))
  have s13 := s12.other (p := ⟨R, 1, none⟩) (by show w.heap.size + 1 ≠ R; omega) (.int .i64 ((n : Int) + 2))
  have G3 : GX R w (w2.setCell ⟨R, 1, none⟩ (.int .i64 ((n : Int) + 2))) := (GX.of_gr (R := R) G2).setCell (p := ⟨R, 1, none⟩) (.inl rfl) _
  have H3 := Lib.hid (And.intro h3 (And.intro s03 (And.intro s13 G3)))
  clear h3 s03 s13 G3 s02 s12 G2 hrow2 h2
  obtain ⟨hz0, hsz0⟩ := HZ.out
  go_upto_region 7 with (first
    | (go_at_call 57; refine (HS6'.out _).mono ?_; rintro e w4 ⟨rfl, hg4⟩)
    | (refine wpList_store_row rfl 72 (.tmp 7) (.tmp 42) rfl w4.heap.size (bsA F) rfl rfl _ _ (SetQ.new w4 noB) (size_bsQ _) (by simp only [bsA_size]) (bsA_one _) ?_))
  clear hz0 hsz0 c1 f1
  obtain ⟨h3, s03, s13, G3⟩ := H3.out
  have hz3 : (w2.setCell ⟨R, 1, none⟩ (.int .i64 ((n : Int) + 2))).heap.size = w2.heap.size := by simp
  have hz4 := hg4.size
  rw [hz3] at hz4
  have S5 : SetQ ((w4.alloc (.cells (bsA noB) 72)).setRow w4.heap.size (bsA F)) w4.heap.size F := SetQ.row (SetQ.new w4 noB)
  have s05 : SetQ ((w4.alloc (.cells (bsA noB) 72)).setRow w4.heap.size (bsA F)) w.heap.size noB := SetQ.rowother ((s03.gr hg4).gr (Gr.alloc (Gr.refl _) _)) (by omega) _
  have s15 : SetQ ((w4.alloc (.cells (bsA noB) 72)).setRow w4.heap.size (bsA F)) (w.heap.size + 1) noB := SetQ.rowother ((s13.gr hg4).gr (Gr.alloc (Gr.refl _) _)) (by omega) _
  have hrow3 := h3.row
  have h5 : RfW ((w4.alloc (.cells (bsA noB) 72)).setRow w4.heap.size (bsA F)) R s (n + 2) d e g A code := ((h3.gr hg4).gr (Gr.alloc (Gr.refl _) _)).row' (by omega) (fun e => by have := (hrow3 _ e).2; rw [hz3] at this; omega)
  have G5 : GX R w ((w4.alloc (.cells (bsA noB) 72)).setRow w4.heap.size (bsA F)) := ((G3.trans (GX.of_gr hg4)).alloc _).setRow (.inr (by omega)) _
  have hz5 : ((w4.alloc (.cells (bsA noB) 72)).setRow w4.heap.size (bsA F)).heap.size = w4.heap.size + 1 := by simp
  generalize ((w4.alloc (.cells (bsA noB) 72)).setRow w4.heap.size (bsA F)) = w5 at S5 s05 s15 h5 G5 hz5 ⊢
  clear h3 s03 s13 G3 H3 hz3 hg4
  have hrow5 : ∀ k, blk A = some k → k < w.heap.size := fun k hk => (h.row k hk).2
  go_upto_region 8 with (fail)
  refine wp_region_Z 3 (fun W => SetQ W w4.heap.size F) (by kernel_rfl) ?_
  have hS0b : SetQ w5.drew w4.heap.size F := S5
  have hDb : SetQ w5.drew w.heap.size noB := s05
  refine wpAnyZ_take (i := 0) (v := .agg (bsA F)) rfl (by kernel_rfl) (fun _ _ _ h => h) (by rfl) (fun W hS => ?h10) hS0b ?r10
  case h10 =>
    simp only [List.getElem_toArray, List.getElem_cons_succ, List.getElem_cons_zero]
    exact exec_load_row _ _ rfl w4.heap.size rfl hS und_arr rfl (size_bsQ _)
  simp only [Act.put, List.getElem_toArray, List.getElem_cons_succ, List.getElem_cons_zero, List.setIfInBounds_toArray, List.set_cons_zero, List.set_cons_succ]
  refine wpAnyZ_take (i := 1) (v := ?v11) rfl (by kernel_rfl) (fun _ _ _ h => h) (by rfl) (fun W hS => ?h11) hS0b ?r11
  case h11 =>
    go_simp
    rfl
  simp only [Act.put, List.getElem_toArray, List.getElem_cons_succ, List.getElem_cons_zero, List.setIfInBounds_toArray, List.set_cons_zero, List.set_cons_succ]
  refine wpAnyZ_ready (rs := [2]) (by kernel_rfl) (by simp) ?_
  refine AllReadyZ.cons (i := 2) rfl (by kernel_rfl) ?zxb2 AllReadyZ.nil
  intro K hK
  simp only [List.getElem_toArray, List.getElem_cons_succ, List.getElem_cons_zero]
  refine wp_store_row _ _ _ rfl w.heap.size (bsA F) rfl rfl _ _ hDb (size_bsQ _) (by simp only [bsA_size]) (bsA_one _) ?_
  have hS1b : SetQ (w5.drew.setRow w.heap.size (bsA F)) w4.heap.size F := SetQ.rowother hS0b (by omega) _
  refine hK.out _ _ (fun hnz => ?zsb2) (fun _ => ?zrb2)
  case zsb2 => exact hS1b
  clear hK K
  try (simp only [Act.put, List.getElem_toArray, List.getElem_cons_succ, List.getElem_cons_zero, List.setIfInBounds_toArray, List.set_cons_zero, List.set_cons_succ])
  refine wpAnyZ_ready (rs := [3]) (by kernel_rfl) (by simp) ?_
  refine AllReadyZ.cons (i := 3) rfl (by kernel_rfl) ?zxb3 AllReadyZ.nil
  intro K hK
  simp only [List.getElem_toArray, List.getElem_cons_succ, List.getElem_cons_zero]
  go_simp
  refine hK.out _ _ (fun hnz => ?zsb3) (fun _ => ?zrb3)
  case zsb3 => exact absurd rfl hnz
  clear hK K
  try (simp only [Act.put, List.getElem_toArray, List.getElem_cons_succ, List.getElem_cons_zero, List.setIfInBounds_toArray, List.set_cons_zero, List.set_cons_succ])
  refine wpAnyZ_done (by kernel_rfl) ?_ _
  go_wp2
  exact bodyPost_ret (v := .tuple #[.int .u8 0, .agg (bsA F), .bool true]) (res_arr3 _ 2 3 4 (by kernel_rfl) _ _ w.heap.size _ _ _ rfl rfl rfl (SetQ.row hDb)) rfl ⟨rfl, (h5.gr (Gr.drew (Gr.refl _))).row' (by omega) (fun e => by have := hrow5 _ e; omega), (G5.drew).setRow (.inr (Nat.le_refl _)) _⟩

set_option maxRecDepth 100000 in
set_option maxHeartbeats 3200000 in
theorem stroke_byte {w : World} {R n d e g : Nat} {s : ByteArray} {A : Option Addr} {code : List In} (h : RfW w R s n d e g A code) (hs : (s.size : Int) ≤ 4096) (hn : n + 1 < s.size) (hf : namedB (s[n + 1].toNat) = none) : Calls Try.prog 52 #[.pointer (some ⟨R, 0, none⟩)] w (RetX w R s (n + 2) d e g A code (s[n + 1].toNat) noB (!alnB (s[n + 1].toNat))) := by
  obtain ⟨hz0, hsz0⟩ := zero_of_info info_arr
  have g0 : Gr w ((w.alloc (Obj.cells (bsA noB) 72)).alloc (Obj.cells (bsA noB) 72)) := (by repeat (first | exact Gr.refl _ | refine Gr.alloc ?_ _ | refine Gr.drew ?_ | refine Gr.setCell ?_ (by first | (simp; done) | (simp; omega) | omega) _ | refine Gr.trans ?_ (by assumption)))
  have s0 : SetQ ((w.alloc (Obj.cells (bsA noB) 72)).alloc (Obj.cells (bsA noB) 72)) w.heap.size noB := (SetQ.new w noB).gr (Gr.alloc (Gr.refl _) _)
  have s1 : SetQ ((w.alloc (Obj.cells (bsA noB) 72)).alloc (Obj.cells (bsA noB) 72)) (w.heap.size + 1) noB := by
    have := SetQ.new (w.alloc (Obj.cells (bsA noB) 72)) noB
    simpa using this
  have hlt := h.lt
  have hn1 : ¬ (s.size : Int) ≤ (n : Int) + 1 := by omega
  have hn2 : ¬ s.size ≤ n + 1 := by omega
  have hn3 : (n : Int) + 1 < (s.size : Int) := by omega
  have hn4 : (n : Int) ≤ 4096 := by omega
  have hw1 : IntKind.i64.wrap ((n : Int) + 1) = (n : Int) + 1 := IntWalk.i64_in _ (by omega)
  obtain ⟨x, hx⟩ : ∃ x, x = s[n + 1].toNat := ⟨_, rfl⟩
  rw [← hx] at hf ⊢
  have hx256 : x < 256 := by rw [hx]; exact (s[n + 1]).toNat_lt
  have HX := Lib.hid hx
  have HS6 := fun w => six_none x hx256 (named_no hf) w
  have HS6' := Lib.hid HS6
  have HZ := Lib.hid (And.intro hz0 hsz0)
  clear hx hf HS6
  go_enter Try.func52, Try.ntmps52
  go_upto_region 2 with (fail)
  generalize ((w.alloc (Obj.cells (bsA noB) 72)).alloc (Obj.cells (bsA noB) 72)) = w0 at g0 s0 s1 ⊢
  clear hz0 hsz0
  have h0 := h.gr g0
  have hz : R < w0.heap.size := h0.lt
  obtain ⟨cc, hc⟩ := id h0
  obtain ⟨c0, c1⟩ := And.intro hc.c0 hc.c1
  have hzw : w.heap.size + 1 < w0.heap.size := s1.lt
  clear hc
  refine region_Q (by kernel_rfl) (by kernel_rfl) ?_
  refine q_val (v := ?qv34) (by rfl) (fun W hW => ?qh34) ?qr34
  case qh34 =>
    go_simp
    rfl
  simp only [Act.put, List.setIfInBounds_toArray, List.set_cons_zero, List.set_cons_succ]
  refine q_val (v := ?qv35) (by rfl) (fun W hW => ?qh35) ?qr35
  case qh35 =>
    go_simp
    rfl
  simp only [Act.put, List.setIfInBounds_toArray, List.set_cons_zero, List.set_cons_succ]
  refine q_val (v := ?qv36) (by rfl) (fun W hW => ?qh36) ?qr36
  case qh36 =>
    go_simp
    rfl
  simp only [Act.put, List.setIfInBounds_toArray, List.set_cons_zero, List.set_cons_succ]
  refine q_val (v := ?qv37) (by rfl) (fun W hW => ?qh37) ?qr37
  case qh37 =>
    have q1 := (Below.cell hW (p := ⟨R, 1, none⟩) hz).trans c1
    go_simp
    rfl
  simp only [Act.put, List.setIfInBounds_toArray, List.set_cons_zero, List.set_cons_succ]
  refine q_val (v := ?qv38) (by rfl) (fun W hW => ?qh38) ?qr38
  case qh38 =>
    go_simp
    rfl
  simp only [Act.put, List.setIfInBounds_toArray, List.set_cons_zero, List.set_cons_succ]
  refine q_val (v := ?qv39) (by rfl) (fun W hW => ?qh39) ?qr39
  case qh39 =>
    go_simp
    rfl
  simp only [Act.put, List.setIfInBounds_toArray, List.set_cons_zero, List.set_cons_succ]
  refine q_val (v := ?qv40) (by rfl) (fun W hW => ?qh40) ?qr40
  case qh40 =>
    go_simp
    rfl
  simp only [Act.put, List.setIfInBounds_toArray, List.set_cons_zero, List.set_cons_succ]
  refine q_val (v := ?qv41) (by rfl) (fun W hW => ?qh41) ?qr41
  case qh41 =>
    go_simp
    rfl
  simp only [Act.put, List.setIfInBounds_toArray, List.set_cons_zero, List.set_cons_succ]
  refine q_val (v := ?qv42) (by rfl) (fun W hW => ?qh42) ?qr42
  case qh42 =>
    have q0 := (Below.cell hW (p := ⟨R, 0, none⟩) hz).trans c0
    go_simp
    rfl
  simp only [Act.put, List.setIfInBounds_toArray, List.set_cons_zero, List.set_cons_succ]
  refine q_val (v := ?qv43) (by rfl) (fun W hW => ?qh43) ?qr43
  case qh43 =>
    go_simp
    rfl
  simp only [Act.put, List.setIfInBounds_toArray, List.set_cons_zero, List.set_cons_succ]
  refine q_val (v := ?qv44) (by rfl) (fun W hW => ?qh44) ?qr44
  case qh44 =>
    go_simp
    rfl
  simp only [Act.put, List.setIfInBounds_toArray, List.set_cons_zero, List.set_cons_succ]
  refine wpQuiet_nil ?_
  intro w1 hw1
  have s01 := s0.gr hw1
  have h1 := h0.gr hw1
  have s11 := s1.gr hw1
  have G1 := g0.trans hw1
  have hz1 := hw1.size
  have hzR1 : R < w1.heap.size := h1.lt
  obtain ⟨cc1, hc1⟩ := id h1
  clear c0 c1 s0 s1 h0 hz
  obtain ⟨c0, c1⟩ := And.intro hc1.c0 hc1.c1
  clear hc1 hw1
  go_upto_region 4 with (fail)
  refine region_Q (by kernel_rfl) (by kernel_rfl) ?_
  refine q_val (v := ?qv45) (by rfl) (fun W hW => ?qh45) ?qr45
  case qh45 =>
    go_simp
    rfl
  simp only [Act.put, List.setIfInBounds_toArray, List.set_cons_zero, List.set_cons_succ]
  refine q_val (v := ?qv46) (by rfl) (fun W hW => ?qh46) ?qr46
  case qh46 =>
    go_simp
    rfl
  simp only [Act.put, List.setIfInBounds_toArray, List.set_cons_zero, List.set_cons_succ]
  refine q_val (v := ?qv47) (by rfl) (fun W hW => ?qh47) ?qr47
  case qh47 =>
    go_simp
    rfl
  simp only [Act.put, List.setIfInBounds_toArray, List.set_cons_zero, List.set_cons_succ]
  refine q_val (v := ?qv48) (by rfl) (fun W hW => ?qh48) ?qr48
  case qh48 =>
    have q0 := (Below.cell hW (p := ⟨R, 0, none⟩) hzR1).trans c0
    go_simp
    rfl
  simp only [Act.put, List.setIfInBounds_toArray, List.set_cons_zero, List.set_cons_succ]
  refine q_val (v := ?qv49) (by rfl) (fun W hW => ?qh49) ?qr49
  case qh49 =>
    go_simp
    rfl
  simp only [Act.put, List.setIfInBounds_toArray, List.set_cons_zero, List.set_cons_succ]
  refine q_val (v := ?qv50) (by rfl) (fun W hW => ?qh50) ?qr50
  case qh50 =>
    go_simp
    rfl
  simp only [Act.put, List.setIfInBounds_toArray, List.set_cons_zero, List.set_cons_succ]
  refine q_val (v := ?qv51) (by rfl) (fun W hW => ?qh51) ?qr51
  case qh51 =>
    go_simp
    rfl
  simp only [Act.put, List.setIfInBounds_toArray, List.set_cons_zero, List.set_cons_succ]
  refine q_val (v := ?qv52) (by rfl) (fun W hW => ?qh52) ?qr52
  case qh52 =>
    have q1 := (Below.cell hW (p := ⟨R, 1, none⟩) hzR1).trans c1
    go_simp
    rfl
  simp only [Act.put, List.setIfInBounds_toArray, List.set_cons_zero, List.set_cons_succ]
  refine q_val (v := ?qv53) (by rfl) (fun W hW => ?qh53) ?qr53
  case qh53 =>
    go_simp
    rfl
  simp only [Act.put, List.setIfInBounds_toArray, List.set_cons_zero, List.set_cons_succ]
  refine q_val (v := ?qv54) (by rfl) (fun W hW => ?qh54) ?qr54
  case qh54 =>
    go_simp
    rfl
  simp only [Act.put, List.setIfInBounds_toArray, List.set_cons_zero, List.set_cons_succ]
  refine q_val (v := ?qv55) (by rfl) (fun W hW => ?qh55) ?qr55
  case qh55 =>
    go_simp
    rfl
  simp only [Act.put, List.setIfInBounds_toArray, List.set_cons_zero, List.set_cons_succ]
  refine wpQuiet_nil ?_
  intro w2 hw2
  rw [← HX.out]
  have s02 := s01.gr hw2
  have s12 := s11.gr hw2
  have h2 := h1.gr hw2
  have G2 := G1.trans hw2
  have hz2 := hw2.size
  have hzR2 : R < w2.heap.size := h2.lt
  have hrow2 := h2.row
  obtain ⟨cc2, hc2⟩ := id h2
  clear c0 c1 s01 s11 h1 hzR1
  obtain ⟨c1, f1⟩ := And.intro hc2.c1 hc2.f1
  clear hc2
  have h3 : RfW (w2.setCell ⟨R, 1, none⟩ (.int .i64 ((n : Int) + 2))) R s (n + 2) d e g A code := by
    have t := h2.setAt (n + 2)
    rwa [show ((n + 2 : Nat) : Int) = (n : Int) + 2 by omega] at t
  have s03 := s02.other (p := ⟨R, 1, none⟩) (by show w.heap.size ≠ R; omega) (.int .i64 ((n : Int) + 2))
  have s13 := s12.other (p := ⟨R, 1, none⟩) (by show w.heap.size + 1 ≠ R; omega) (.int .i64 ((n : Int) + 2))
  have G3 : GX R w (w2.setCell ⟨R, 1, none⟩ (.int .i64 ((n : Int) + 2))) := (GX.of_gr (R := R) G2).setCell (p := ⟨R, 1, none⟩) (.inl rfl) _
  have H3 := Lib.hid (And.intro h3 (And.intro s03 (And.intro s13 G3)))
  clear h3 s03 s13 G3 s02 s12 G2 hrow2 h2
  obtain ⟨hz0, hsz0⟩ := HZ.out
  go_upto_region 7 with (first
    | (go_at_call 57; refine (HS6'.out _).mono ?_; rintro e w4 ⟨rfl, hg4⟩)
    | (refine wpList_store_row rfl 72 (.tmp 7) (.tmp 42) rfl w4.heap.size (bsA noB) rfl rfl _ _ (SetQ.new w4 noB) (size_bsQ _) (by simp only [bsA_size]) (bsA_one _) ?_))
  clear hz0 hsz0 c1 f1
  obtain ⟨h3, s03, s13, G3⟩ := H3.out
  have hz3 : (w2.setCell ⟨R, 1, none⟩ (.int .i64 ((n : Int) + 2))).heap.size = w2.heap.size := by simp
  have hz4 := hg4.size
  rw [hz3] at hz4
  have S5 : SetQ ((w4.alloc (.cells (bsA noB) 72)).setRow w4.heap.size (bsA noB)) w4.heap.size noB := SetQ.row (SetQ.new w4 noB)
  have s05 : SetQ ((w4.alloc (.cells (bsA noB) 72)).setRow w4.heap.size (bsA noB)) w.heap.size noB := SetQ.rowother ((s03.gr hg4).gr (Gr.alloc (Gr.refl _) _)) (by omega) _
  have s15 : SetQ ((w4.alloc (.cells (bsA noB) 72)).setRow w4.heap.size (bsA noB)) (w.heap.size + 1) noB := SetQ.rowother ((s13.gr hg4).gr (Gr.alloc (Gr.refl _) _)) (by omega) _
  have hrow3 := h3.row
  have h5 : RfW ((w4.alloc (.cells (bsA noB) 72)).setRow w4.heap.size (bsA noB)) R s (n + 2) d e g A code := ((h3.gr hg4).gr (Gr.alloc (Gr.refl _) _)).row' (by omega) (fun e => by have := (hrow3 _ e).2; rw [hz3] at this; omega)
  have G5 : GX R w ((w4.alloc (.cells (bsA noB) 72)).setRow w4.heap.size (bsA noB)) := ((G3.trans (GX.of_gr hg4)).alloc _).setRow (.inr (by omega)) _
  have hz5 : ((w4.alloc (.cells (bsA noB) 72)).setRow w4.heap.size (bsA noB)).heap.size = w4.heap.size + 1 := by simp
  generalize ((w4.alloc (.cells (bsA noB) 72)).setRow w4.heap.size (bsA noB)) = w5 at S5 s05 s15 h5 G5 hz5 ⊢
  clear h3 s03 s13 G3 H3 hz3 hg4
  have hrow5 : ∀ k, blk A = some k → k < w.heap.size := fun k hk => (h.row k hk).2
  have HW := fun W => word_any x hx256 W
  have HW2 := Lib.hid HW
  clear HW
  go_upto_region 9 with (fail)
  refine wp_region_Z 7 (fun W => SetQ W (w.heap.size + 1) noB) (by kernel_rfl) ?_
  have hS0c : SetQ w5.drew (w.heap.size + 1) noB := s15
  have hDc : SetQ w5.drew w.heap.size noB := s05
  refine wpAnyZ_take (i := 0) (v := ?v12) rfl (by kernel_rfl) (fun _ _ _ h => h) (by rfl) (fun W hS => ?h12) hS0c ?r12
  case h12 =>
    go_simp
    rfl
  simp only [Act.put, List.getElem_toArray, List.getElem_cons_succ, List.getElem_cons_zero, List.setIfInBounds_toArray, List.set_cons_zero, List.set_cons_succ]
  refine wpAnyZ_take (i := 1) (v := .agg (bsA noB)) rfl (by kernel_rfl) (fun _ _ _ h => h) (by rfl) (fun W hS => ?h13) hS0c ?r13
  case h13 =>
    simp only [List.getElem_toArray, List.getElem_cons_succ, List.getElem_cons_zero]
    exact exec_load_row _ _ rfl (w.heap.size + 1) rfl hS und_arr rfl (size_bsQ _)
  simp only [Act.put, List.getElem_toArray, List.getElem_cons_succ, List.getElem_cons_zero, List.setIfInBounds_toArray, List.set_cons_zero, List.set_cons_succ]
  refine wpAnyZ_take (i := 2) (v := ?v14) rfl (by kernel_rfl) (fun _ _ _ h => h) (by rfl) (fun W hS => ?h14) hS0c ?r14
  case h14 =>
    go_simp
    rfl
  simp only [Act.put, List.getElem_toArray, List.getElem_cons_succ, List.getElem_cons_zero, List.setIfInBounds_toArray, List.set_cons_zero, List.set_cons_succ]
  refine wpAnyZ_ready (rs := [3]) (by kernel_rfl) (by simp) ?_
  refine AllReadyZ.cons (i := 3) rfl (by kernel_rfl) ?zxc3 AllReadyZ.nil
  intro K hK
  simp only [List.getElem_toArray, List.getElem_cons_succ, List.getElem_cons_zero]
  go_simp
  refine (HW2.out _).mono ?_; rintro e w6 ⟨rfl, rfl⟩
  go_wp2_with fail
  refine hK.out _ _ (fun hnz => ?zsc3) (fun _ => ?zrc3)
  case zsc3 => exact hS0c
  clear hK K
  try (simp only [Act.put, List.getElem_toArray, List.getElem_cons_succ, List.getElem_cons_zero, List.setIfInBounds_toArray, List.set_cons_zero, List.set_cons_succ])
  refine wpAnyZ_take (i := 4) (v := ?v15) rfl (by kernel_rfl) (fun _ _ _ h => h) (by rfl) (fun W hS => ?h15) hS0c ?r15
  case h15 =>
    go_simp
    rfl
  simp only [Act.put, List.getElem_toArray, List.getElem_cons_succ, List.getElem_cons_zero, List.setIfInBounds_toArray, List.set_cons_zero, List.set_cons_succ]
  refine wpAnyZ_ready (rs := [5]) (by kernel_rfl) (by simp) ?_
  refine AllReadyZ.cons (i := 5) rfl (by kernel_rfl) ?zxc5 AllReadyZ.nil
  intro K hK
  simp only [List.getElem_toArray, List.getElem_cons_succ, List.getElem_cons_zero]
  go_simp
  refine hK.out _ _ (fun hnz => ?zsc5) (fun _ => ?zrc5)
  case zsc5 => exact hS0c
  clear hK K
  try (simp only [Act.put, List.getElem_toArray, List.getElem_cons_succ, List.getElem_cons_zero, List.setIfInBounds_toArray, List.set_cons_zero, List.set_cons_succ])
  refine wpAnyZ_ready (rs := [6]) (by kernel_rfl) (by simp) ?_
  refine AllReadyZ.cons (i := 6) rfl (by kernel_rfl) ?zxc6 AllReadyZ.nil
  intro K hK
  simp only [List.getElem_toArray, List.getElem_cons_succ, List.getElem_cons_zero]
  refine wp_store_row _ _ _ rfl w.heap.size (bsA noB) rfl rfl _ _ hDc (size_bsQ _) (by simp only [bsA_size]) (bsA_one _) ?_
  have hS1c : SetQ (w5.drew.setRow w.heap.size (bsA noB)) (w.heap.size + 1) noB := SetQ.rowother hS0c (by omega) _
  refine hK.out _ _ (fun hnz => ?zsc6) (fun _ => ?zrc6)
  case zsc6 => exact hS1c
  clear hK K
  try (simp only [Act.put, List.getElem_toArray, List.getElem_cons_succ, List.getElem_cons_zero, List.setIfInBounds_toArray, List.set_cons_zero, List.set_cons_succ])
  refine wpAnyZ_ready (rs := [7]) (by kernel_rfl) (by simp) ?_
  refine AllReadyZ.cons (i := 7) rfl (by kernel_rfl) ?zxc7 AllReadyZ.nil
  intro K hK
  simp only [List.getElem_toArray, List.getElem_cons_succ, List.getElem_cons_zero]
  go_simp
  refine hK.out _ _ (fun hnz => ?zsc7) (fun _ => ?zrc7)
  case zsc7 => exact absurd rfl hnz
  clear hK K
  try (simp only [Act.put, List.getElem_toArray, List.getElem_cons_succ, List.getElem_cons_zero, List.setIfInBounds_toArray, List.set_cons_zero, List.set_cons_succ])
  refine wpAnyZ_done (by kernel_rfl) ?_ _
  go_wp2
  exact bodyPost_ret (v := .tuple #[.int .u8 x, .agg (bsA noB), .bool (!alnB x)]) (res_arr3 _ 2 3 4 (by kernel_rfl) _ _ w.heap.size _ _ _ rfl rfl rfl (SetQ.row hDc)) rfl ⟨rfl, (h5.gr (Gr.drew (Gr.refl _))).row' (by omega) (fun e => by have := hrow5 _ e; omega), (G5.drew).setRow (.inr (Nat.le_refl _)) _⟩

end Go.Proofs.Ytpcmdijgepbilaa
namespace Go.Proofs.Ytpcmdijgepbilaa
set_option linter.unusedVariables false
set_option linter.unusedSimpArgs false
open Go.RowKit

/-- what item's last region reads. -/
def ItS (R : Nat) (s : ByteArray) (n t : Nat) (W : World) : Prop := W.cell? ⟨R, 0, none⟩ = some (.string s) ∧ W.cell? ⟨R, 1, none⟩ = some (.int .i64 n) ∧ SetQ W t noB

set_option maxRecDepth 100000 in
set_option maxHeartbeats 3200000 in
theorem item_end {w : World} {R n d e g : Nat} {s : ByteArray} {A : Option Addr} {code : List In} (h : RfW w R s n d e g A code) (hs : (s.size : Int) ≤ 4096) (hn : n = s.size) : Calls Try.prog 55 #[.pointer (some ⟨R, 0, none⟩)] w (RetX w R s n d e g A code 0 noB false) := by
  obtain ⟨hz0, hsz0⟩ := zero_of_info info_arr
  have g0 : Gr w ((w.alloc (Obj.cells (bsA noB) 72)).alloc (Obj.cells (bsA noB) 72)) := (by repeat (first | exact Gr.refl _ | refine Gr.alloc ?_ _ | refine Gr.drew ?_ | refine Gr.setCell ?_ (by first | (simp; done) | (simp; omega) | omega) _ | refine Gr.trans ?_ (by assumption)))
  have s0 : SetQ ((w.alloc (Obj.cells (bsA noB) 72)).alloc (Obj.cells (bsA noB) 72)) w.heap.size noB := (SetQ.new w noB).gr (Gr.alloc (Gr.refl _) _)
  have s1 : SetQ ((w.alloc (Obj.cells (bsA noB) 72)).alloc (Obj.cells (bsA noB) 72)) (w.heap.size + 1) noB := by
    have := SetQ.new (w.alloc (Obj.cells (bsA noB) 72)) noB
    simpa using this
  have hlt := h.lt
  have hn1 : (s.size : Int) ≤ (n : Int) := by omega
  have hn2 : s.size ≤ n := by omega
  clear hn
  go_enter Try.func55, Try.ntmps55
  go_upto_region 2 with (fail)
  generalize ((w.alloc (Obj.cells (bsA noB) 72)).alloc (Obj.cells (bsA noB) 72)) = w0 at g0 s0 s1 ⊢
  clear hz0 hsz0
  have h0 := h.gr g0
  have hz : R < w0.heap.size := h0.lt
  obtain ⟨cc, hc⟩ := id h0
  obtain ⟨c0, c1⟩ := And.intro hc.c0 hc.c1
  have hzw : w.heap.size + 1 < w0.heap.size := s1.lt
  clear hc
  refine region_Q (by kernel_rfl) (by kernel_rfl) ?_
  refine q_val (v := ?qv56) (by rfl) (fun W hW => ?qh56) ?qr56
  case qh56 =>
    go_simp
    rfl
  simp only [Act.put, List.setIfInBounds_toArray, List.set_cons_zero, List.set_cons_succ]
  refine q_val (v := ?qv57) (by rfl) (fun W hW => ?qh57) ?qr57
  case qh57 =>
    go_simp
    rfl
  simp only [Act.put, List.setIfInBounds_toArray, List.set_cons_zero, List.set_cons_succ]
  refine q_val (v := ?qv58) (by rfl) (fun W hW => ?qh58) ?qr58
  case qh58 =>
    go_simp
    rfl
  simp only [Act.put, List.setIfInBounds_toArray, List.set_cons_zero, List.set_cons_succ]
  refine q_val (v := ?qv59) (by rfl) (fun W hW => ?qh59) ?qr59
  case qh59 =>
    have q1 := (Below.cell hW (p := ⟨R, 1, none⟩) hz).trans c1
    go_simp
    rfl
  simp only [Act.put, List.setIfInBounds_toArray, List.set_cons_zero, List.set_cons_succ]
  refine q_val (v := ?qv60) (by rfl) (fun W hW => ?qh60) ?qr60
  case qh60 =>
    go_simp
    rfl
  simp only [Act.put, List.setIfInBounds_toArray, List.set_cons_zero, List.set_cons_succ]
  refine q_val (v := ?qv61) (by rfl) (fun W hW => ?qh61) ?qr61
  case qh61 =>
    go_simp
    rfl
  simp only [Act.put, List.setIfInBounds_toArray, List.set_cons_zero, List.set_cons_succ]
  refine q_val (v := ?qv62) (by rfl) (fun W hW => ?qh62) ?qr62
  case qh62 =>
    go_simp
    rfl
  simp only [Act.put, List.setIfInBounds_toArray, List.set_cons_zero, List.set_cons_succ]
  refine q_val (v := ?qv63) (by rfl) (fun W hW => ?qh63) ?qr63
  case qh63 =>
    have q0 := (Below.cell hW (p := ⟨R, 0, none⟩) hz).trans c0
    go_simp
    rfl
  simp only [Act.put, List.setIfInBounds_toArray, List.set_cons_zero, List.set_cons_succ]
  refine q_val (v := ?qv64) (by rfl) (fun W hW => ?qh64) ?qr64
  case qh64 =>
    go_simp
    rfl
  simp only [Act.put, List.setIfInBounds_toArray, List.set_cons_zero, List.set_cons_succ]
  refine q_val (v := ?qv65) (by rfl) (fun W hW => ?qh65) ?qr65
  case qh65 =>
    go_simp
    rfl
  simp only [Act.put, List.setIfInBounds_toArray, List.set_cons_zero, List.set_cons_succ]
  refine wpQuiet_nil ?_
  intro w1 hw1
  have s01 := s0.gr hw1
  have s11 := s1.gr hw1
  have h1 := h0.gr hw1
  have hrow := h.row
  have hz1 := hw1.size
  have G1 := g0.trans hw1
  clear c0 c1 s0 s1
  go_upto_region 3 with (fail)
  refine wp_region_Z 3 (fun W => SetQ W (w.heap.size + 1) noB) (by kernel_rfl) ?_
  have hS0a : SetQ w1.drew (w.heap.size + 1) noB := s11
  have hDa : SetQ w1.drew w.heap.size noB := s01
  refine wpAnyZ_take (i := 0) (v := .agg (bsA noB)) rfl (by kernel_rfl) (fun _ _ _ h => h) (by rfl) (fun W hS => ?h16) hS0a ?r16
  case h16 =>
    simp only [List.getElem_toArray, List.getElem_cons_succ, List.getElem_cons_zero]
    exact exec_load_row _ _ rfl (w.heap.size + 1) rfl hS und_arr rfl (size_bsQ _)
  simp only [Act.put, List.getElem_toArray, List.getElem_cons_succ, List.getElem_cons_zero, List.setIfInBounds_toArray, List.set_cons_zero, List.set_cons_succ]
  refine wpAnyZ_take (i := 1) (v := ?v17) rfl (by kernel_rfl) (fun _ _ _ h => h) (by rfl) (fun W hS => ?h17) hS0a ?r17
  case h17 =>
    go_simp
    rfl
  simp only [Act.put, List.getElem_toArray, List.getElem_cons_succ, List.getElem_cons_zero, List.setIfInBounds_toArray, List.set_cons_zero, List.set_cons_succ]
  refine wpAnyZ_ready (rs := [2]) (by kernel_rfl) (by simp) ?_
  refine AllReadyZ.cons (i := 2) rfl (by kernel_rfl) ?zxa2 AllReadyZ.nil
  intro K hK
  simp only [List.getElem_toArray, List.getElem_cons_succ, List.getElem_cons_zero]
  refine wp_store_row _ _ _ rfl w.heap.size (bsA noB) rfl rfl _ _ hDa (size_bsQ _) (by simp only [bsA_size]) (bsA_one _) ?_
  have hS1a : SetQ (w1.drew.setRow w.heap.size (bsA noB)) (w.heap.size + 1) noB := SetQ.rowother hS0a (by omega) _
  refine hK.out _ _ (fun hnz => ?zsa2) (fun _ => ?zra2)
  case zsa2 => exact hS1a
  clear hK K
  try (simp only [Act.put, List.getElem_toArray, List.getElem_cons_succ, List.getElem_cons_zero, List.setIfInBounds_toArray, List.set_cons_zero, List.set_cons_succ])
  refine wpAnyZ_ready (rs := [3]) (by kernel_rfl) (by simp) ?_
  refine AllReadyZ.cons (i := 3) rfl (by kernel_rfl) ?zxa3 AllReadyZ.nil
  intro K hK
  simp only [List.getElem_toArray, List.getElem_cons_succ, List.getElem_cons_zero]
  go_simp
  refine hK.out _ _ (fun hnz => ?zsa3) (fun _ => ?zra3)
  case zsa3 => exact absurd rfl hnz
  clear hK K
  try (simp only [Act.put, List.getElem_toArray, List.getElem_cons_succ, List.getElem_cons_zero, List.setIfInBounds_toArray, List.set_cons_zero, List.set_cons_succ])
  refine wpAnyZ_done (by kernel_rfl) ?_ _
  go_wp2
  exact bodyPost_ret (v := .tuple #[.int .u8 0, .agg (bsA noB), .bool false]) (res_arr3 _ 2 3 4 (by kernel_rfl) _ _ w.heap.size _ _ _ rfl rfl rfl (SetQ.row hDa)) rfl ⟨rfl, (h1.gr (Gr.drew (Gr.refl _))).row' (by omega) (fun e => by have := (hrow _ e).2; omega), GX.of_gr (Gr.setRow G1.drew (Nat.le_refl _) _)⟩
set_option maxRecDepth 100000 in
set_option maxHeartbeats 3200000 in
theorem item_stroke {w : World} {R n d e g : Nat} {s : ByteArray} {A : Option Addr} {code : List In} (h : RfW w R s n d e g A code) (hs : (s.size : Int) ≤ 4096) (hn : n < s.size) (h92 : s[n].toNat = 92) (n' c : Nat) (f : Bs) (ok : Bool) (HS : ∀ W, RfW W R s n d e g A code → Calls Try.prog 52 #[.pointer (some ⟨R, 0, none⟩)] W (RetX W R s n' d e g A code c f ok)) :
    Calls Try.prog 55 #[.pointer (some ⟨R, 0, none⟩)] w (RetX w R s n' d e g A code c f ok) := by
  obtain ⟨hz0, hsz0⟩ := zero_of_info info_arr
  have g0 : Gr w ((w.alloc (Obj.cells (bsA noB) 72)).alloc (Obj.cells (bsA noB) 72)) := (by repeat (first | exact Gr.refl _ | refine Gr.alloc ?_ _ | refine Gr.drew ?_ | refine Gr.setCell ?_ (by first | (simp; done) | (simp; omega) | omega) _ | refine Gr.trans ?_ (by assumption)))
  have s0 : SetQ ((w.alloc (Obj.cells (bsA noB) 72)).alloc (Obj.cells (bsA noB) 72)) w.heap.size noB := (SetQ.new w noB).gr (Gr.alloc (Gr.refl _) _)
  have s1 : SetQ ((w.alloc (Obj.cells (bsA noB) 72)).alloc (Obj.cells (bsA noB) 72)) (w.heap.size + 1) noB := by
    have := SetQ.new (w.alloc (Obj.cells (bsA noB) 72)) noB
    simpa using this
  have hlt := h.lt
  have hn1 : ¬ (s.size : Int) ≤ (n : Int) := by omega
  have hn2 : ¬ s.size ≤ n := by omega
  have hn3 : (n : Int) < (s.size : Int) := by omega
  have hq : ((s[n].toNat : Int) == 92) = true := by simp [h92]
  have HS' := Lib.hid HS
  clear h92 HS
  go_enter Try.func55, Try.ntmps55
  go_upto_region 2 with (fail)
  generalize ((w.alloc (Obj.cells (bsA noB) 72)).alloc (Obj.cells (bsA noB) 72)) = w0 at g0 s0 s1 ⊢
  clear hz0 hsz0
  have h0 := h.gr g0
  have hz : R < w0.heap.size := h0.lt
  obtain ⟨cc, hc⟩ := id h0
  obtain ⟨c0, c1⟩ := And.intro hc.c0 hc.c1
  have hzw : w.heap.size + 1 < w0.heap.size := s1.lt
  clear hc
  refine region_Q (by kernel_rfl) (by kernel_rfl) ?_
  refine q_val (v := ?qv66) (by rfl) (fun W hW => ?qh66) ?qr66
  case qh66 =>
    go_simp
    rfl
  simp only [Act.put, List.setIfInBounds_toArray, List.set_cons_zero, List.set_cons_succ]
  refine q_val (v := ?qv67) (by rfl) (fun W hW => ?qh67) ?qr67
  case qh67 =>
    go_simp
    rfl
  simp only [Act.put, List.setIfInBounds_toArray, List.set_cons_zero, List.set_cons_succ]
  refine q_val (v := ?qv68) (by rfl) (fun W hW => ?qh68) ?qr68
  case qh68 =>
    go_simp
    rfl
  simp only [Act.put, List.setIfInBounds_toArray, List.set_cons_zero, List.set_cons_succ]
  refine q_val (v := ?qv69) (by rfl) (fun W hW => ?qh69) ?qr69
  case qh69 =>
    have q1 := (Below.cell hW (p := ⟨R, 1, none⟩) hz).trans c1
    go_simp
    rfl
  simp only [Act.put, List.setIfInBounds_toArray, List.set_cons_zero, List.set_cons_succ]
  refine q_val (v := ?qv70) (by rfl) (fun W hW => ?qh70) ?qr70
  case qh70 =>
    go_simp
    rfl
  simp only [Act.put, List.setIfInBounds_toArray, List.set_cons_zero, List.set_cons_succ]
  refine q_val (v := ?qv71) (by rfl) (fun W hW => ?qh71) ?qr71
  case qh71 =>
    go_simp
    rfl
  simp only [Act.put, List.setIfInBounds_toArray, List.set_cons_zero, List.set_cons_succ]
  refine q_val (v := ?qv72) (by rfl) (fun W hW => ?qh72) ?qr72
  case qh72 =>
    go_simp
    rfl
  simp only [Act.put, List.setIfInBounds_toArray, List.set_cons_zero, List.set_cons_succ]
  refine q_val (v := ?qv73) (by rfl) (fun W hW => ?qh73) ?qr73
  case qh73 =>
    have q0 := (Below.cell hW (p := ⟨R, 0, none⟩) hz).trans c0
    go_simp
    rfl
  simp only [Act.put, List.setIfInBounds_toArray, List.set_cons_zero, List.set_cons_succ]
  refine q_val (v := ?qv74) (by rfl) (fun W hW => ?qh74) ?qr74
  case qh74 =>
    go_simp
    rfl
  simp only [Act.put, List.setIfInBounds_toArray, List.set_cons_zero, List.set_cons_succ]
  refine q_val (v := ?qv75) (by rfl) (fun W hW => ?qh75) ?qr75
  case qh75 =>
    go_simp
    rfl
  simp only [Act.put, List.setIfInBounds_toArray, List.set_cons_zero, List.set_cons_succ]
  refine wpQuiet_nil ?_
  intro w1 hw1
  have s01 := s0.gr hw1
  have h1 := h0.gr hw1
  have s11 := s1.gr hw1
  have G1 := g0.trans hw1
  have hz1 := hw1.size
  have hzR1 : R < w1.heap.size := h1.lt
  obtain ⟨cc1, hc1⟩ := id h1
  clear c0 c1 s0 s1 h0 hz
  obtain ⟨c0, c1⟩ := And.intro hc1.c0 hc1.c1
  clear hc1 hw1
  go_upto_region 4 with (fail)
  refine region_Q (by kernel_rfl) (by kernel_rfl) ?_
  refine q_val (v := ?qv76) (by rfl) (fun W hW => ?qh76) ?qr76
  case qh76 =>
    go_simp
    rfl
  simp only [Act.put, List.setIfInBounds_toArray, List.set_cons_zero, List.set_cons_succ]
  refine q_val (v := ?qv77) (by rfl) (fun W hW => ?qh77) ?qr77
  case qh77 =>
    go_simp
    rfl
  simp only [Act.put, List.setIfInBounds_toArray, List.set_cons_zero, List.set_cons_succ]
  refine q_val (v := ?qv78) (by rfl) (fun W hW => ?qh78) ?qr78
  case qh78 =>
    go_simp
    rfl
  simp only [Act.put, List.setIfInBounds_toArray, List.set_cons_zero, List.set_cons_succ]
  refine q_val (v := ?qv79) (by rfl) (fun W hW => ?qh79) ?qr79
  case qh79 =>
    have q0 := (Below.cell hW (p := ⟨R, 0, none⟩) hzR1).trans c0
    go_simp
    rfl
  simp only [Act.put, List.setIfInBounds_toArray, List.set_cons_zero, List.set_cons_succ]
  refine q_val (v := ?qv80) (by rfl) (fun W hW => ?qh80) ?qr80
  case qh80 =>
    go_simp
    rfl
  simp only [Act.put, List.setIfInBounds_toArray, List.set_cons_zero, List.set_cons_succ]
  refine q_val (v := ?qv81) (by rfl) (fun W hW => ?qh81) ?qr81
  case qh81 =>
    go_simp
    rfl
  simp only [Act.put, List.setIfInBounds_toArray, List.set_cons_zero, List.set_cons_succ]
  refine q_val (v := ?qv82) (by rfl) (fun W hW => ?qh82) ?qr82
  case qh82 =>
    go_simp
    rfl
  simp only [Act.put, List.setIfInBounds_toArray, List.set_cons_zero, List.set_cons_succ]
  refine q_val (v := ?qv83) (by rfl) (fun W hW => ?qh83) ?qr83
  case qh83 =>
    have q1 := (Below.cell hW (p := ⟨R, 1, none⟩) hzR1).trans c1
    go_simp
    rfl
  simp only [Act.put, List.setIfInBounds_toArray, List.set_cons_zero, List.set_cons_succ]
  refine q_val (v := ?qv84) (by rfl) (fun W hW => ?qh84) ?qr84
  case qh84 =>
    go_simp
    rfl
  simp only [Act.put, List.setIfInBounds_toArray, List.set_cons_zero, List.set_cons_succ]
  refine q_val (v := ?qv85) (by rfl) (fun W hW => ?qh85) ?qr85
  case qh85 =>
    go_simp
    rfl
  simp only [Act.put, List.setIfInBounds_toArray, List.set_cons_zero, List.set_cons_succ]
  refine wpQuiet_nil ?_
  intro w2 hw2
  have s02 := s01.gr hw2
  have s12 := s11.gr hw2
  have h2 := h1.gr hw2
  have G2 := G1.trans hw2
  have hz2 := hw2.size
  have hzR2 : R < w2.heap.size := h2.lt
  clear c0 c1 s01 s11 h1 hzR1
  have hrow := h.row
  go_wp2_with (first
    | (go_at_call 52; refine (HS'.out _ h2).mono ?_; rintro x w3 ⟨rfl, h3, G3⟩; have hz3 := G3.size; have s03 : SetQ w3 w.heap.size noB := (G3.block _ (by omega) (by omega)).trans s02)
    | (refine wpList_store_row rfl 72 (.tmp 3) (.tmp 30) rfl w.heap.size (bsA f) rfl rfl _ _ s03 (size_bsQ _) (by simp only [bsA_size]) (bsA_one _) ?_))
  exact bodyPost_ret (v := .tuple #[.int .u8 c, .agg (bsA f), .bool ok]) (res_arr3 _ 2 3 4 (by kernel_rfl) _ _ w.heap.size _ _ _ rfl rfl rfl (SetQ.row s03)) rfl ⟨rfl, h3.row' (by omega) (fun e => by have := (hrow _ e).2; omega), ((GX.of_gr G2).trans G3).setRow (.inr (Nat.le_refl _)) _⟩
set_option maxRecDepth 100000 in
set_option maxHeartbeats 3200000 in
theorem item_plain {w : World} {R n d e g : Nat} {s : ByteArray} {A : Option Addr} {code : List In} (h : RfW w R s n d e g A code) (hs : (s.size : Int) ≤ 4096) (hn : n < s.size) (h92 : s[n].toNat ≠ 92) :
    Calls Try.prog 55 #[.pointer (some ⟨R, 0, none⟩)] w (RetX w R s (n + 1) d e g A code (s[n].toNat) noB true) := by
  obtain ⟨hz0, hsz0⟩ := zero_of_info info_arr
  have g0 : Gr w ((w.alloc (Obj.cells (bsA noB) 72)).alloc (Obj.cells (bsA noB) 72)) := (by repeat (first | exact Gr.refl _ | refine Gr.alloc ?_ _ | refine Gr.drew ?_ | refine Gr.setCell ?_ (by first | (simp; done) | (simp; omega) | omega) _ | refine Gr.trans ?_ (by assumption)))
  have s0 : SetQ ((w.alloc (Obj.cells (bsA noB) 72)).alloc (Obj.cells (bsA noB) 72)) w.heap.size noB := (SetQ.new w noB).gr (Gr.alloc (Gr.refl _) _)
  have s1 : SetQ ((w.alloc (Obj.cells (bsA noB) 72)).alloc (Obj.cells (bsA noB) 72)) (w.heap.size + 1) noB := by
    have := SetQ.new (w.alloc (Obj.cells (bsA noB) 72)) noB
    simpa using this
  have hlt := h.lt
  have hn1 : ¬ (s.size : Int) ≤ (n : Int) := by omega
  have hn2 : ¬ s.size ≤ n := by omega
  have hn3 : (n : Int) < (s.size : Int) := by omega
  have hn4 : (n : Int) ≤ 4096 := by omega
  have hq : ((s[n].toNat : Int) == 92) = false := beq_eq_false_iff_ne.2 (by omega)
  have hw1 : IntKind.i64.wrap (n : Int) = (n : Int) := IntWalk.i64_in _ (by omega)
  have hn5 : (0 : Int) ≤ (n : Int) := by omega
  clear h92
  go_enter Try.func55, Try.ntmps55
  go_upto_region 2 with (fail)
  generalize ((w.alloc (Obj.cells (bsA noB) 72)).alloc (Obj.cells (bsA noB) 72)) = w0 at g0 s0 s1 ⊢
  clear hz0 hsz0
  have h0 := h.gr g0
  have hz : R < w0.heap.size := h0.lt
  obtain ⟨cc, hc⟩ := id h0
  obtain ⟨c0, c1⟩ := And.intro hc.c0 hc.c1
  have hzw : w.heap.size + 1 < w0.heap.size := s1.lt
  clear hc
  refine region_Q (by kernel_rfl) (by kernel_rfl) ?_
  refine q_val (v := ?qv66) (by rfl) (fun W hW => ?qh66) ?qr66
  case qh66 =>
    go_simp
    rfl
  simp only [Act.put, List.setIfInBounds_toArray, List.set_cons_zero, List.set_cons_succ]
  refine q_val (v := ?qv67) (by rfl) (fun W hW => ?qh67) ?qr67
  case qh67 =>
    go_simp
    rfl
  simp only [Act.put, List.setIfInBounds_toArray, List.set_cons_zero, List.set_cons_succ]
  refine q_val (v := ?qv68) (by rfl) (fun W hW => ?qh68) ?qr68
  case qh68 =>
    go_simp
    rfl
  simp only [Act.put, List.setIfInBounds_toArray, List.set_cons_zero, List.set_cons_succ]
  refine q_val (v := ?qv69) (by rfl) (fun W hW => ?qh69) ?qr69
  case qh69 =>
    have q1 := (Below.cell hW (p := ⟨R, 1, none⟩) hz).trans c1
    go_simp
    rfl
  simp only [Act.put, List.setIfInBounds_toArray, List.set_cons_zero, List.set_cons_succ]
  refine q_val (v := ?qv70) (by rfl) (fun W hW => ?qh70) ?qr70
  case qh70 =>
    go_simp
    rfl
  simp only [Act.put, List.setIfInBounds_toArray, List.set_cons_zero, List.set_cons_succ]
  refine q_val (v := ?qv71) (by rfl) (fun W hW => ?qh71) ?qr71
  case qh71 =>
    go_simp
    rfl
  simp only [Act.put, List.setIfInBounds_toArray, List.set_cons_zero, List.set_cons_succ]
  refine q_val (v := ?qv72) (by rfl) (fun W hW => ?qh72) ?qr72
  case qh72 =>
    go_simp
    rfl
  simp only [Act.put, List.setIfInBounds_toArray, List.set_cons_zero, List.set_cons_succ]
  refine q_val (v := ?qv73) (by rfl) (fun W hW => ?qh73) ?qr73
  case qh73 =>
    have q0 := (Below.cell hW (p := ⟨R, 0, none⟩) hz).trans c0
    go_simp
    rfl
  simp only [Act.put, List.setIfInBounds_toArray, List.set_cons_zero, List.set_cons_succ]
  refine q_val (v := ?qv74) (by rfl) (fun W hW => ?qh74) ?qr74
  case qh74 =>
    go_simp
    rfl
  simp only [Act.put, List.setIfInBounds_toArray, List.set_cons_zero, List.set_cons_succ]
  refine q_val (v := ?qv75) (by rfl) (fun W hW => ?qh75) ?qr75
  case qh75 =>
    go_simp
    rfl
  simp only [Act.put, List.setIfInBounds_toArray, List.set_cons_zero, List.set_cons_succ]
  refine wpQuiet_nil ?_
  intro w1 hw1
  have s01 := s0.gr hw1
  have h1 := h0.gr hw1
  have s11 := s1.gr hw1
  have G1 := g0.trans hw1
  have hz1 := hw1.size
  have hzR1 : R < w1.heap.size := h1.lt
  obtain ⟨cc1, hc1⟩ := id h1
  clear c0 c1 s0 s1 h0 hz
  obtain ⟨c0, c1⟩ := And.intro hc1.c0 hc1.c1
  clear hc1 hw1
  go_upto_region 4 with (fail)
  refine region_Q (by kernel_rfl) (by kernel_rfl) ?_
  refine q_val (v := ?qv76) (by rfl) (fun W hW => ?qh76) ?qr76
  case qh76 =>
    go_simp
    rfl
  simp only [Act.put, List.setIfInBounds_toArray, List.set_cons_zero, List.set_cons_succ]
  refine q_val (v := ?qv77) (by rfl) (fun W hW => ?qh77) ?qr77
  case qh77 =>
    go_simp
    rfl
  simp only [Act.put, List.setIfInBounds_toArray, List.set_cons_zero, List.set_cons_succ]
  refine q_val (v := ?qv78) (by rfl) (fun W hW => ?qh78) ?qr78
  case qh78 =>
    go_simp
    rfl
  simp only [Act.put, List.setIfInBounds_toArray, List.set_cons_zero, List.set_cons_succ]
  refine q_val (v := ?qv79) (by rfl) (fun W hW => ?qh79) ?qr79
  case qh79 =>
    have q0 := (Below.cell hW (p := ⟨R, 0, none⟩) hzR1).trans c0
    go_simp
    rfl
  simp only [Act.put, List.setIfInBounds_toArray, List.set_cons_zero, List.set_cons_succ]
  refine q_val (v := ?qv80) (by rfl) (fun W hW => ?qh80) ?qr80
  case qh80 =>
    go_simp
    rfl
  simp only [Act.put, List.setIfInBounds_toArray, List.set_cons_zero, List.set_cons_succ]
  refine q_val (v := ?qv81) (by rfl) (fun W hW => ?qh81) ?qr81
  case qh81 =>
    go_simp
    rfl
  simp only [Act.put, List.setIfInBounds_toArray, List.set_cons_zero, List.set_cons_succ]
  refine q_val (v := ?qv82) (by rfl) (fun W hW => ?qh82) ?qr82
  case qh82 =>
    go_simp
    rfl
  simp only [Act.put, List.setIfInBounds_toArray, List.set_cons_zero, List.set_cons_succ]
  refine q_val (v := ?qv83) (by rfl) (fun W hW => ?qh83) ?qr83
  case qh83 =>
    have q1 := (Below.cell hW (p := ⟨R, 1, none⟩) hzR1).trans c1
    go_simp
    rfl
  simp only [Act.put, List.setIfInBounds_toArray, List.set_cons_zero, List.set_cons_succ]
  refine q_val (v := ?qv84) (by rfl) (fun W hW => ?qh84) ?qr84
  case qh84 =>
    go_simp
    rfl
  simp only [Act.put, List.setIfInBounds_toArray, List.set_cons_zero, List.set_cons_succ]
  refine q_val (v := ?qv85) (by rfl) (fun W hW => ?qh85) ?qr85
  case qh85 =>
    go_simp
    rfl
  simp only [Act.put, List.setIfInBounds_toArray, List.set_cons_zero, List.set_cons_succ]
  refine wpQuiet_nil ?_
  intro w2 hw2
  have s02 := s01.gr hw2
  have s12 := s11.gr hw2
  have h2 := h1.gr hw2
  have G2 := G1.trans hw2
  have hz2 := hw2.size
  have hzR2 : R < w2.heap.size := h2.lt
  clear c0 c1 s01 s11 h1 hzR1
  have hrow := h.row
  obtain ⟨cc2, hc2⟩ := id h2
  obtain ⟨c1, f1⟩ := And.intro hc2.c1 hc2.f1
  have c0 := hc2.c0
  clear hc2
  have h3 : RfW (w2.setCell ⟨R, 1, none⟩ (.int .i64 ((n : Int) + 1))) R s (n + 1) d e g A code := by
    have t := h2.setAt (n + 1)
    rwa [show ((n + 1 : Nat) : Int) = (n : Int) + 1 by omega] at t
  have s03 := s02.other (p := ⟨R, 1, none⟩) (by show w.heap.size ≠ R; omega) (.int .i64 ((n : Int) + 1))
  have s13 := s12.other (p := ⟨R, 1, none⟩) (by show w.heap.size + 1 ≠ R; omega) (.int .i64 ((n : Int) + 1))
  have G3 : GX R w (w2.setCell ⟨R, 1, none⟩ (.int .i64 ((n : Int) + 1))) := (GX.of_gr (R := R) G2).setCell (p := ⟨R, 1, none⟩) (.inl rfl) _
  go_upto_region 7 with (fail)
  have hz3 : (w2.setCell ⟨R, 1, none⟩ (.int .i64 ((n : Int) + 1))).heap.size = w2.heap.size := by simp
  generalize (w2.setCell ⟨R, 1, none⟩ (.int .i64 ((n : Int) + 1))) = w3 at h3 s03 s13 G3 hz3 ⊢
  clear c0 c1 f1 s02 s12 h2
  obtain ⟨cc3, hc3⟩ := id h3
  have hSI : ItS R s (n + 1) (w.heap.size + 1) w3.drew := ⟨hc3.c0, hc3.c1, s13⟩
  have hD : SetQ w3.drew w.heap.size noB := s03
  clear hc3
  refine wp_region_Z 13 (ItS R s (n + 1) (w.heap.size + 1)) (by kernel_rfl) ?_
  refine wpAnyZ_take (i := 0) (v := ?v18) rfl (by kernel_rfl) (fun _ _ _ h => h) (by rfl) (fun W hS => ?h18) hSI ?r18
  case h18 =>
    go_simp
    rfl
  simp only [Act.put, List.getElem_toArray, List.getElem_cons_succ, List.getElem_cons_zero, List.setIfInBounds_toArray, List.set_cons_zero, List.set_cons_succ]
  refine wpAnyZ_take (i := 1) (v := ?v19) rfl (by kernel_rfl) (fun _ _ _ h => h) (by rfl) (fun W hS => ?h19) hSI ?r19
  case h19 =>
    go_simp
    rfl
  simp only [Act.put, List.getElem_toArray, List.getElem_cons_succ, List.getElem_cons_zero, List.setIfInBounds_toArray, List.set_cons_zero, List.set_cons_succ]
  refine wpAnyZ_take (i := 2) (v := ?v20) rfl (by kernel_rfl) (fun _ _ _ h => h) (by rfl) (fun W hS => ?h20) hSI ?r20
  case h20 =>
    go_simp
    rfl
  simp only [Act.put, List.getElem_toArray, List.getElem_cons_succ, List.getElem_cons_zero, List.setIfInBounds_toArray, List.set_cons_zero, List.set_cons_succ]
  refine wpAnyZ_take (i := 3) (v := ?v21) rfl (by kernel_rfl) (fun _ _ _ h => h) (by rfl) (fun W hS => ?h21) hSI ?r21
  case h21 =>
    obtain ⟨q0, -, -⟩ := hS
    go_simp
    rfl
  simp only [Act.put, List.getElem_toArray, List.getElem_cons_succ, List.getElem_cons_zero, List.setIfInBounds_toArray, List.set_cons_zero, List.set_cons_succ]
  refine wpAnyZ_take (i := 4) (v := ?v22) rfl (by kernel_rfl) (fun _ _ _ h => h) (by rfl) (fun W hS => ?h22) hSI ?r22
  case h22 =>
    go_simp
    rfl
  simp only [Act.put, List.getElem_toArray, List.getElem_cons_succ, List.getElem_cons_zero, List.setIfInBounds_toArray, List.set_cons_zero, List.set_cons_succ]
  refine wpAnyZ_take (i := 5) (v := ?v23) rfl (by kernel_rfl) (fun _ _ _ h => h) (by rfl) (fun W hS => ?h23) hSI ?r23
  case h23 =>
    go_simp
    rfl
  simp only [Act.put, List.getElem_toArray, List.getElem_cons_succ, List.getElem_cons_zero, List.setIfInBounds_toArray, List.set_cons_zero, List.set_cons_succ]
  refine wpAnyZ_take (i := 6) (v := ?v24) rfl (by kernel_rfl) (fun _ _ _ h => h) (by rfl) (fun W hS => ?h24) hSI ?r24
  case h24 =>
    go_simp
    rfl
  simp only [Act.put, List.getElem_toArray, List.getElem_cons_succ, List.getElem_cons_zero, List.setIfInBounds_toArray, List.set_cons_zero, List.set_cons_succ]
  refine wpAnyZ_take (i := 7) (v := ?v25) rfl (by kernel_rfl) (fun _ _ _ h => h) (by rfl) (fun W hS => ?h25) hSI ?r25
  case h25 =>
    obtain ⟨-, q1, -⟩ := hS
    rw [show ((n + 1 : Nat) : Int) = (n : Int) + 1 by omega] at q1
    go_simp
    rfl
  simp only [Act.put, List.getElem_toArray, List.getElem_cons_succ, List.getElem_cons_zero, List.setIfInBounds_toArray, List.set_cons_zero, List.set_cons_succ]
  refine wpAnyZ_take (i := 8) (v := ?v26) rfl (by kernel_rfl) (fun _ _ _ h => h) (by rfl) (fun W hS => ?h26) hSI ?r26
  case h26 =>
    go_simp
    rfl
  simp only [Act.put, List.getElem_toArray, List.getElem_cons_succ, List.getElem_cons_zero, List.setIfInBounds_toArray, List.set_cons_zero, List.set_cons_succ]
  refine wpAnyZ_take (i := 9) (v := ?v27) rfl (by kernel_rfl) (fun _ _ _ h => h) (by rfl) (fun W hS => ?h27) hSI ?r27
  case h27 =>
    go_simp
    rfl
  simp only [Act.put, List.getElem_toArray, List.getElem_cons_succ, List.getElem_cons_zero, List.setIfInBounds_toArray, List.set_cons_zero, List.set_cons_succ]
  refine wpAnyZ_take (i := 10) (v := .agg (bsA noB)) rfl (by kernel_rfl) (fun _ _ _ h => h) (by rfl) (fun W hS => ?h28) hSI ?r28
  case h28 =>
    simp only [List.getElem_toArray, List.getElem_cons_succ, List.getElem_cons_zero]
    exact exec_load_row _ _ rfl (w.heap.size + 1) rfl hS.2.2 und_arr rfl (size_bsQ _)
  simp only [Act.put, List.getElem_toArray, List.getElem_cons_succ, List.getElem_cons_zero, List.setIfInBounds_toArray, List.set_cons_zero, List.set_cons_succ]
  refine wpAnyZ_take (i := 11) (v := ?v29) rfl (by kernel_rfl) (fun _ _ _ h => h) (by rfl) (fun W hS => ?h29) hSI ?r29
  case h29 =>
    go_simp
    rfl
  simp only [Act.put, List.getElem_toArray, List.getElem_cons_succ, List.getElem_cons_zero, List.setIfInBounds_toArray, List.set_cons_zero, List.set_cons_succ]
  refine wpAnyZ_ready (rs := [12]) (by kernel_rfl) (by simp) ?_
  refine AllReadyZ.cons (i := 12) rfl (by kernel_rfl) ?zxi12 AllReadyZ.nil
  intro K hK
  simp only [List.getElem_toArray, List.getElem_cons_succ, List.getElem_cons_zero]
  refine wp_store_row _ _ _ rfl w.heap.size (bsA noB) rfl rfl _ _ hD (size_bsQ _) (by simp only [bsA_size]) (bsA_one _) ?_
  have hSI1 : ItS R s (n + 1) (w.heap.size + 1) (w3.drew.setRow w.heap.size (bsA noB)) := ⟨(World.cell?_of_block (a := ⟨R, 0, none⟩) (setRow_other _ _ R _ (by omega))).trans hSI.1, (World.cell?_of_block (a := ⟨R, 1, none⟩) (setRow_other _ _ R _ (by omega))).trans hSI.2.1, SetQ.rowother hSI.2.2 (by omega) _⟩
  refine hK.out _ _ (fun hnz => ?zsi12) (fun _ => ?zri12)
  case zsi12 => exact hSI1
  clear hK K
  try (simp only [Act.put, List.getElem_toArray, List.getElem_cons_succ, List.getElem_cons_zero, List.setIfInBounds_toArray, List.set_cons_zero, List.set_cons_succ])
  refine wpAnyZ_ready (rs := [13]) (by kernel_rfl) (by simp) ?_
  refine AllReadyZ.cons (i := 13) rfl (by kernel_rfl) ?zxi13 AllReadyZ.nil
  intro K hK
  simp only [List.getElem_toArray, List.getElem_cons_succ, List.getElem_cons_zero]
  go_simp
  refine hK.out _ _ (fun hnz => ?zsi13) (fun _ => ?zri13)
  case zsi13 => exact absurd rfl hnz
  clear hK K
  try (simp only [Act.put, List.getElem_toArray, List.getElem_cons_succ, List.getElem_cons_zero, List.setIfInBounds_toArray, List.set_cons_zero, List.set_cons_succ])
  refine wpAnyZ_done (by kernel_rfl) ?_ _
  go_wp2
  exact bodyPost_ret (v := .tuple #[.int .u8 s[n].toNat, .agg (bsA noB), .bool true]) (res_arr3 _ 2 3 4 (by kernel_rfl) _ _ w.heap.size _ _ _ rfl rfl rfl (SetQ.row hD)) rfl ⟨rfl, (h3.gr (Gr.drew (Gr.refl _))).row' (by omega) (fun e => by have := (hrow _ e).2; omega), (G3.drew).setRow (.inr (Nat.le_refl _)) _⟩
end Go.Proofs.Ytpcmdijgepbilaa
namespace Go.Proofs.Ytpcmdijgepbilaa
set_option linter.unusedVariables false
set_option linter.unusedSimpArgs false
open Go.RowKit

theorem eqn_100 (w : World) : (Op.equalIn 10000 72 (.agg (bsA digB)) (.agg (bsA noB))).run Try.prog w = .ok false w := by kernel_rfl
theorem eqn_68 (w : World) : (Op.equalIn 10000 72 (.agg (bsA (notB digB))) (.agg (bsA noB))).run Try.prog w = .ok false w := by kernel_rfl
theorem eqn_119 (w : World) : (Op.equalIn 10000 72 (.agg (bsA wordB)) (.agg (bsA noB))).run Try.prog w = .ok false w := by kernel_rfl
theorem eqn_87 (w : World) : (Op.equalIn 10000 72 (.agg (bsA (notB wordB))) (.agg (bsA noB))).run Try.prog w = .ok false w := by kernel_rfl
theorem eqn_115 (w : World) : (Op.equalIn 10000 72 (.agg (bsA spB)) (.agg (bsA noB))).run Try.prog w = .ok false w := by kernel_rfl
theorem eqn_83 (w : World) : (Op.equalIn 10000 72 (.agg (bsA (notB spB))) (.agg (bsA noB))).run Try.prog w = .ok false w := by kernel_rfl
theorem eqn_none (w : World) : (Op.equalIn 10000 72 (.agg (bsA noB)) (.agg (bsA noB))).run Try.prog w = .ok true w := by kernel_rfl
theorem eqn_some {c : Nat} {f : Bs} (h : namedB c = some f) (w : World) : (Op.equalIn 10000 72 (.agg (bsA f)) (.agg (bsA noB))).run Try.prog w = .ok false w := by
  by_cases h100 : c = 100
  · subst h100
    injection h with h
    subst h
    exact eqn_100 w
  by_cases h68 : c = 68
  · subst h68
    injection h with h
    subst h
    exact eqn_68 w
  by_cases h119 : c = 119
  · subst h119
    injection h with h
    subst h
    exact eqn_119 w
  by_cases h87 : c = 87
  · subst h87
    injection h with h
    subst h
    exact eqn_87 w
  by_cases h115 : c = 115
  · subst h115
    injection h with h
    subst h
    exact eqn_115 w
  by_cases h83 : c = 83
  · subst h83
    injection h with h
    subst h
    exact eqn_83 w
  unfold namedB at h
  rw [beq_eq_false_iff_ne.2 h100, beq_eq_false_iff_ne.2 h68, beq_eq_false_iff_ne.2 h119, beq_eq_false_iff_ne.2 h87, beq_eq_false_iff_ne.2 h115, beq_eq_false_iff_ne.2 h83] at h
  cases h

def sxB (l : List UInt8) : Bool := match l with | a :: b :: _ => a.toNat == 92 && isNamed b.toNat | _ => false
set_option maxRecDepth 100000 in
set_option maxHeartbeats 3200000 in
theorem sixat_end {w : World} {R n d e g : Nat} {s : ByteArray} {A : Option Addr} {code : List In} (h : RfW w R s n d e g A code) (hs : (s.size : Int) ≤ 4096) (i : Nat) (hi4 : (i : Int) ≤ 5000) (hi : ¬ i + 1 < s.size) : Calls Try.prog 56 #[.pointer (some ⟨R, 0, none⟩), .int .i64 i] w fun x w' => x = .returned (.bool false) ∧ Gr w w' := by
  obtain ⟨hz0, hsz0⟩ := zero_of_info info_arr
  obtain ⟨cc, hc⟩ := h
  have c0 := hc.c0
  clear hc
  have h1 : (s.size : Int) ≤ (i : Int) + 1 := by omega
  go_enter Try.func56, Try.ntmps56
  go_wp2
  go_ret
  exact ⟨rfl, Gr.refl _⟩
set_option maxRecDepth 100000 in
set_option maxHeartbeats 3200000 in
theorem sixat_no {w : World} {R n d e g : Nat} {s : ByteArray} {A : Option Addr} {code : List In} (h : RfW w R s n d e g A code) (hs : (s.size : Int) ≤ 4096) (i : Nat) (hi4 : (i : Int) ≤ 5000) (hi : i + 1 < s.size) (h92 : s[i].toNat ≠ 92) : Calls Try.prog 56 #[.pointer (some ⟨R, 0, none⟩), .int .i64 i] w fun x w' => x = .returned (.bool false) ∧ Gr w w' := by
  obtain ⟨hz0, hsz0⟩ := zero_of_info info_arr
  obtain ⟨cc, hc⟩ := h
  have c0 := hc.c0
  clear hc
  have h1 : ¬ (s.size : Int) ≤ (i : Int) + 1 := by omega
  have h2 : (i : Int) < (s.size : Int) := by omega
  have hi0 : i < s.size := by omega
  have hq : ((s[i].toNat : Int) != 92) = true := by simp [bne, beq_eq_false_iff_ne.2 (show (s[i].toNat : Int) ≠ 92 by omega)]
  clear h92
  go_enter Try.func56, Try.ntmps56
  go_wp2
  go_ret
  exact ⟨rfl, Gr.refl _⟩
set_option maxRecDepth 100000 in
set_option maxHeartbeats 3200000 in
theorem sixat_yes {w : World} {R n d e g : Nat} {s : ByteArray} {A : Option Addr} {code : List In} (h : RfW w R s n d e g A code) (hs : (s.size : Int) ≤ 4096) (i : Nat) (hi4 : (i : Int) ≤ 5000) (hi : i + 1 < s.size) (h92 : s[i].toNat = 92) (y : Nat) (hy : y = s[i + 1].toNat) : Calls Try.prog 56 #[.pointer (some ⟨R, 0, none⟩), .int .i64 i] w fun x w' => x = .returned (.bool (isNamed y)) ∧ Gr w w' := by
  obtain ⟨hz0, hsz0⟩ := zero_of_info info_arr
  obtain ⟨cc, hc⟩ := h
  have c0 := hc.c0
  clear hc
  have h1 : ¬ (s.size : Int) ≤ (i : Int) + 1 := by omega
  have h2 : (i : Int) < (s.size : Int) := by omega
  have h3 : (i : Int) + 1 < (s.size : Int) := by omega
  have hi0 : i < s.size := by omega
  have hq : ((s[i].toNat : Int) != 92) = false := by simp [h92]
  have HS6 : Hid (∀ W, _) := Lib.hid (fun W => six_any (s[i + 1].toNat) (s[i + 1]).toNat_lt W)
  subst hy
  clear h92
  go_enter Try.func56, Try.ntmps56
  go_wp2_with (first
    | (go_at_call 57; refine (HS6.out _).mono ?_; rintro x w4 ⟨rfl, hg4⟩)
    | (refine wpList_store_row rfl 72 (.tmp 5) (.tmp 33) rfl w4.heap.size (bsA (nmB s[i + 1].toNat)) rfl rfl _ _ (SetQ.new w4 noB) (size_bsQ _) (by simp only [bsA_size]) (bsA_one _) ?_))
  go_ret
  exact ⟨rfl, Gr.setRow (hg4.alloc _) hg4.size _⟩
theorem sixat_any {w : World} {R n d e g : Nat} {s : ByteArray} {A : Option Addr} {code : List In} (h : RfW w R s n d e g A code) (hs : (s.size : Int) ≤ 4096) (i : Nat) (hi4 : (i : Int) ≤ 5000) : Calls Try.prog 56 #[.pointer (some ⟨R, 0, none⟩), .int .i64 i] w fun x w' => x = .returned (.bool (sxB (s.data.toList.drop i))) ∧ Gr w w' := by
  by_cases hi : i + 1 < s.size
  · have hl1 : i < s.data.toList.length := by simp; omega
    have hl2 : i + 1 < s.data.toList.length := by simp; omega
    have e : sxB (s.data.toList.drop i) = (s[i].toNat == 92 && isNamed s[i + 1].toNat) := by
      rw [List.drop_eq_getElem_cons hl1, List.drop_eq_getElem_cons hl2]; rfl
    rw [e]
    by_cases h92 : s[i].toNat = 92
    · rw [beq_iff_eq.2 h92, Bool.true_and]; exact sixat_yes h hs i hi4 hi h92 _ rfl
    · rw [beq_eq_false_iff_ne.2 h92, Bool.false_and]; exact sixat_no h hs i hi4 hi h92
  · have e : sxB (s.data.toList.drop i) = false := by
      match e : s.data.toList.drop i with
      | [] => rfl
      | [_] => rfl
      | a :: b :: r =>
        have := congrArg List.length e
        simp at this
        omega
    rw [e]
    exact sixat_end h hs i hi4 hi

theorem item_some {w : World} {R n d e g : Nat} {s : ByteArray} {A : Option Addr} {code : List In} (h : RfW w R s n d e g A code) (hs : (s.size : Int) ≤ 4096) (hn : n ≤ s.size) {f : Bs} {a : Nat} {wd : Bool} {t : List UInt8} (hx : sideS (s.data.toList.drop n) = (some (f, a, wd), t)) :
    ∃ n', s.data.toList.drop n' = t ∧ n < n' ∧ n' ≤ s.size ∧ a < 256 ∧ (wd = false → f = oneB a) ∧ (wd = true → ∃ c, namedB c = some f) ∧
    ∀ {w : World}, RfW w R s n d e g A code → Calls Try.prog 55 #[.pointer (some ⟨R, 0, none⟩)] w (RetX w R s n' d e g A code (bif wd then 0 else a) (bif wd then f else noB) true) := by
  have hlt : n < s.size := by
    rcases Nat.lt_or_ge n s.size with h1 | h1
    · exact h1
    · rw [List.drop_eq_nil_of_le (by simp; omega)] at hx
      cases hx
  have hl : n < s.data.toList.length := by simpa using hlt
  rw [List.drop_eq_getElem_cons hl] at hx
  have e0 : s.data.toList[n] = s[n] := rfl
  rw [e0] at hx
  simp only [sideS] at hx
  by_cases h92 : s[n].toNat = 92
  · rw [beq_iff_eq.2 h92] at hx
    simp only [cond_true] at hx
    by_cases h1 : n + 1 < s.size
    · have hl1 : n + 1 < s.data.toList.length := by simpa using h1
      rw [List.drop_eq_getElem_cons hl1] at hx
      have e1 : s.data.toList[n + 1] = s[n + 1] := rfl
      rw [e1] at hx
      simp only [escS] at hx
      cases hnm : namedB (s[n + 1].toNat) with
      | some F =>
        rw [hnm] at hx
        simp only [isNamed, hnm, Option.isSome_some] at hx
        injection hx with hx1 hx2
        injection hx1 with hx1
        injection hx1 with hf hx3
        injection hx3 with ha hw
        subst hf; subst ha; subst hw; subst hx2
        exact ⟨n + 2, rfl, by omega, by omega, (s[n + 1]).toNat_lt, (fun h => by cases h), fun _ => ⟨_, hnm⟩, fun h => item_stroke h hs hlt h92 _ _ _ _ fun W hW => stroke_named hW hs h1 hnm⟩
      | none =>
        rw [hnm] at hx
        simp only [isNamed, hnm, Option.isSome_none] at hx
        cases hal : alnB (s[n + 1].toNat)
        · rw [isWord_aln, hal] at hx
          simp only [cond_false] at hx
          injection hx with hx1 hx2
          injection hx1 with hx1
          injection hx1 with hf hx3
          injection hx3 with ha hw
          subst hf; subst ha; subst hw; subst hx2
          refine ⟨n + 2, rfl, by omega, by omega, (s[n + 1]).toNat_lt, fun _ => rfl, (fun h => by cases h), fun h => item_stroke h hs hlt h92 _ _ _ _ fun W hW => ?_⟩
          have := stroke_byte hW hs h1 hnm
          rw [hal] at this
          exact this
        · rw [isWord_aln, hal] at hx
          simp at hx
    · rw [List.drop_eq_nil_of_le (by simp; omega)] at hx
      simp at hx
  · rw [beq_eq_false_iff_ne.2 h92] at hx
    simp only [cond_false] at hx
    injection hx with hx1 hx2
    injection hx1 with hx1
    injection hx1 with hf hx3
    injection hx3 with ha hw
    subst hf; subst ha; subst hw; subst hx2
    exact ⟨n + 1, rfl, by omega, by omega, (s[n]).toNat_lt, fun _ => rfl, (fun h => by cases h), fun h => item_plain h hs hlt h92⟩
theorem item_none {w : World} {R n d e g : Nat} {s : ByteArray} {A : Option Addr} {code : List In} (h : RfW w R s n d e g A code) (hs : (s.size : Int) ≤ 4096) (hn : n ≤ s.size) {t : List UInt8} (hx : sideS (s.data.toList.drop n) = (none, t)) :
    ∃ n' c f, n ≤ n' ∧ n' ≤ s.size + 1 ∧ ∀ {w : World}, RfW w R s n d e g A code → Calls Try.prog 55 #[.pointer (some ⟨R, 0, none⟩)] w (RetX w R s n' d e g A code c f false) := by
  by_cases hlt : n < s.size
  · have hl : n < s.data.toList.length := by simpa using hlt
    rw [List.drop_eq_getElem_cons hl] at hx
    have e0 : s.data.toList[n] = s[n] := rfl
    rw [e0] at hx
    simp only [sideS] at hx
    by_cases h92 : s[n].toNat = 92
    · rw [beq_iff_eq.2 h92] at hx
      simp only [cond_true] at hx
      by_cases h1 : n + 1 < s.size
      · have hl1 : n + 1 < s.data.toList.length := by simpa using h1
        rw [List.drop_eq_getElem_cons hl1] at hx
        have e1 : s.data.toList[n + 1] = s[n + 1] := rfl
        rw [e1] at hx
        simp only [escS] at hx
        cases hnm : namedB (s[n + 1].toNat) with
        | some F =>
          rw [hnm] at hx
          simp at hx
        | none =>
          rw [hnm] at hx
          cases hal : alnB (s[n + 1].toNat)
          · rw [isWord_aln, hal] at hx
            simp at hx
          · refine ⟨n + 2, s[n + 1].toNat, noB, by omega, by omega, fun h => item_stroke h hs hlt h92 _ _ _ _ fun W hW => ?_⟩
            have := stroke_byte hW hs h1 hnm
            rw [hal] at this
            exact this
      · exact ⟨n, 0, noB, by omega, by omega, fun h => item_stroke h hs hlt h92 _ _ _ _ fun W hW => stroke_end hW hs (by omega)⟩
    · rw [beq_eq_false_iff_ne.2 h92] at hx
      simp at hx
  · exact ⟨n, 0, noB, by omega, by omega, fun h => item_end h hs (by omega)⟩
end Go.Proofs.Ytpcmdijgepbilaa
