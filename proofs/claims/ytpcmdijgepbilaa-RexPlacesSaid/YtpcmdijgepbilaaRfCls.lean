/- class of the reference's reader. -/
import Derived.Test.YtpcmdijgepbilaaMgRE
import Derived.Test.YtpcmdijgepbilaaRegR
import Derived.Deep.Cut
import Derived.Deep.CutRange
import Derived.Deep.Light
namespace Go.Proofs.Ytpcmdijgepbilaa
set_option linter.unusedVariables false
set_option linter.unusedSimpArgs false
open Go.RowKit

/-- what class holds: the result's block, all's block, the reader. -/
structure CQ (R : Nat) (w0 : World) (G : Bs) (s : ByteArray) (n d e g : Nat) (A : Option Addr) (code : List In) (W : World) : Prop where
  x : GX R w0 W
  b : SetQ W w0.heap.size noB
  a : SetQ W (w0.heap.size + 1) G
  r : RfW W R s n d e g A code
section
variable {R n d e g : Nat} {w0 : World} {G : Bs} {s : ByteArray} {A : Option Addr} {code : List In} {W W' : World}
theorem CQ.gr (h : CQ R w0 G s n d e g A code W) (k : Gr W W') : CQ R w0 G s n d e g A code W' := ⟨h.x.trans (GX.of_gr k), h.b.gr k, h.a.gr k, h.r.gr k⟩
theorem CQ.rd (h : CQ R w0 G s n d e g A code W) (x : GX R W W') {n' : Nat} (r : RfW W' R s n' d e g A code) (hR : R < w0.heap.size) : CQ R w0 G s n' d e g A code W' := ⟨h.x.trans x, h.b.gx x (by omega), h.a.gx x (by omega), r⟩
theorem CQ.cell (h : CQ R w0 G s n d e g A code W) (hR : R < w0.heap.size) {H : Bs} (i : Nat) (v : Bool) (hA : ∀ k, blk A = some k → k < w0.heap.size) (hH : ∀ j, j < 256 → (bif j == i then v else G j) = H j) : CQ R w0 H s n d e g A code (W.setCell ⟨w0.heap.size + 1, i, none⟩ (.bool v)) :=
  ⟨h.x.setCell (.inr (by show w0.heap.size ≤ w0.heap.size + 1; omega)) _, h.b.other (by show w0.heap.size ≠ w0.heap.size + 1; omega) _, (h.a.set i v).eq hH, h.r.kept (by simp) (heap_setCell_other W _ R _ (by show R ≠ w0.heap.size + 1; omega)) fun k hk => heap_setCell_other W _ k _ (by have := hA k hk; show k ≠ w0.heap.size + 1; omega)⟩
end
theorem RfW.n {w : World} {R n d e g : Nat} {s : ByteArray} {A : Option Addr} {code : List In} (h : RfW w R s n d e g A code) : rdN R w = n := by
  obtain ⟨c, h⟩ := h
  unfold rdN; rw [h.c1]; simp [intOf]
/-- a class has been read, or none. -/
def RetK (w : World) (R : Nat) (s : ByteArray) (d e g : Nat) (A : Option Addr) (code : List In) (T : Option Bs × List UInt8) (x : Ending) (w' : World) : Prop :=
  ∃ f n', x = .returned (.tuple #[.agg (bsA f), .bool T.1.isSome]) ∧ RfW w' R s n' d e g A code ∧ GX R w w' ∧ n' ≤ s.size + 1 ∧ (∀ F, T.1 = some F → f = F ∧ s.data.toList.drop n' = T.2 ∧ n' ≤ s.size)
theorem ranges_45 {r : List UInt8} (h : headIs 45 r = false) : rangesS r = false := by
  match r with
  | [] => rfl
  | [_] => rfl
  | y :: d :: t => simp only [headIs] at h; simp [rangesS, h]
theorem ranges_six {y d : UInt8} (hy : y.toNat = 45) (hd : d.toNat ≠ 93) (t : List UInt8) : rangesS (y :: d :: t) = !sxB (d :: t) := by
  have h1 : (y.toNat == 45) = true := by simp [hy]
  have h2 : (d.toNat == 93) = false := beq_eq_false_iff_ne.2 hd
  cases t with
  | nil => simp only [rangesS, sxB, h1, h2]; simp
  | cons e t =>
    simp only [rangesS, sxB, h1, h2]
    cases (d.toNat == 92) <;> cases isNamed e.toNat <;> rfl
theorem wp_load_rowX {P : Program} {o : Oper} {a : Act} {W : World} {K : Act → World → Prop} {Q : Exit → Act → World → Prop} {ty : TypeId} {x : Operand} (ho : o.op = .load ty x)
    (g : Nat) (hx : a.eval x = .pointer (some ⟨g, 0, none⟩)) {t : TypeId} {cs : Array Value} {fr : Nat × Nat} {d : TypeDesc} (hg : W.heap[g]? = some (.cells cs t fr))
    (hu : P.underlying ty = some d) (hd : (match d with | .struct _ | .array _ _ => true | _ => false) = true) (hi : (P.info? ty).map (·.size) = some cs.size) (h : K (a.put o.dst (.agg cs)) W) : Oper.wp P o a W K Q := by
  unfold Oper.wp
  rw [exec_load_row ty x ho g hx hg hu hd hi]
  exact h
theorem range_wd {y d : UInt8} {t r : List UInt8} {f : Bs} {b : Nat} {wd : Bool} (h : rangesS (y :: d :: t) = true) (hx : sideS (d :: t) = (some (f, b, wd), r)) : wd = false := by
  simp only [rangesS, Bool.and_eq_true] at h
  simp only [sideS] at hx
  cases hb : (d.toNat == 92)
  · rw [hb] at hx
    simp only [cond_false] at hx
    injection hx with hx1 _
    injection hx1 with hx1
    injection hx1 with _ hx3
    injection hx3 with _ hw
    exact hw.symm
  · rw [hb] at hx h
    simp only [cond_true] at hx
    cases t with
    | nil => simp at hx
    | cons e t =>
      simp only [Bool.not_true, Bool.false_or] at h
      have hn : isNamed e.toNat = false := by have := h.2; simpa using this
      simp only at hx
      generalize escS (e :: t) = u at hx
      obtain ⟨_ | q, u⟩ := u
      · simp at hx
      · simp only at hx
        injection hx with hx1 _
        injection hx1 with hx1
        injection hx1 with _ hx3
        injection hx3 with _ hw
        rw [← hw]; exact hn

set_option maxRecDepth 100000 in
set_option maxHeartbeats 12800000 in
theorem rclass_any {w : World} {R n d e g : Nat} {s : ByteArray} {A : Option Addr} {code : List In} (h : RfW w R s n d e g A code) (hs : (s.size : Int) ≤ 4096) (hn : n < s.size) : Calls Try.prog 51 #[.pointer (some ⟨R, 0, none⟩)] w (RetK w R s d e g A code (classS (s.data.toList.drop (n + 1)))) := by
  obtain ⟨nt, r0, K, hnt, hr0, hK, hcl⟩ := classS_eq (s.data.toList.drop (n + 1))
  rw [hcl]
  have hRw := h.lt
  have hAw : ∀ k, blk A = some k → k < w.heap.size := fun k hk => (h.row k hk).2
  obtain ⟨hz0, hsz0⟩ := zero_of_info info_arr
  obtain ⟨T, hT⟩ : ∃ T, clsS K true noB r0 = T := ⟨_, rfl⟩
  rw [hT]
  have C0 : CQ R w noB s n d e g A code ((w.alloc (Obj.cells (bsA noB) 72)).alloc (Obj.cells (bsA noB) 72)) := by
    have g : Gr w ((w.alloc (Obj.cells (bsA noB) 72)).alloc (Obj.cells (bsA noB) 72)) := Gr.alloc (Gr.alloc (Gr.refl _) _) _
    refine ⟨GX.of_gr g, (SetQ.new w noB).gr (Gr.alloc (Gr.refl _) _), ?_, h.gr g⟩
    have := SetQ.new (w.alloc (Obj.cells (bsA noB) 72)) noB
    simpa using this
  have HT := Lib.hid (And.intro hT (And.intro hnt (And.intro hr0 hK)))
  have hn4 : (n : Int) < 4096 := by omega
  clear hcl hT hnt hr0 hK h
  go_enter Try.func51, Try.ntmps51
  go_upto_region 2 with (fail)
  generalize ((w.alloc (Obj.cells (bsA noB) 72)).alloc (Obj.cells (bsA noB) 72)) = w1 at C0 ⊢
  obtain ⟨cc1, hc1⟩ := id C0.r
  obtain ⟨c1, f1⟩ := And.intro hc1.c1 hc1.f1
  clear hc1
  go_upto_region 3 with (fail)
  have C1 := C0.rd (GX.setCell (p := ⟨R, 1, none⟩) (GX.refl R w1) (.inl rfl) (.int .i64 ((n : Int) + 1))) (by have t := C0.r.setAt (n + 1); rwa [show ((n + 1 : Nat) : Int) = (n : Int) + 1 by omega] at t) hRw
  clear C0 c1 f1
  generalize w1.setCell ⟨R, 1, none⟩ (.int .i64 ((n : Int) + 1)) = w2 at C1 ⊢
  have QM := Lib.hid (fun (W : World) (hW : RfW W R s (n + 1) d e g A code) => more_any hW hs 94)
  go_upto_if 22 with (go_at_call 24; refine (QM.out _ C1.r).mono ?_; rintro x w3 ⟨rfl, g3⟩; have C3 := C1.gr g3)
  rw [← HT.out.2.1]
  clear C1 g3 QM
  go_cut [] from 23 to 30 (fun wx => ∃ n1, n1 ≤ s.size ∧ s.data.toList.drop n1 = r0 ∧ CQ R w noB s n1 d e g A code wx)
  case first =>
    cases nt
    · go_wp2_with (fail)
      go_meet
      case rel => exact ⟨n + 1, by omega, by have := HT.out.2.2.1; simpa using this.symm, C3⟩
    · have hh : headIs 94 (s.data.toList.drop (n + 1)) = true := HT.out.2.1.symm
      obtain ⟨y, t, hyt, -⟩ := headIs_cons hh
      have hl := congrArg List.length hyt
      simp at hl
      have hn5 : (n : Int) + 1 < 4096 := by omega
      have hn6 : n + 2 ≤ s.size := by omega
      obtain ⟨cc1, hc1⟩ := id C3.r
      obtain ⟨c1, f1⟩ := And.intro hc1.c1 hc1.f1
      rw [show ((n + 1 : Nat) : Int) = (n : Int) + 1 by omega] at c1
      clear hc1 hl hyt hh
      go_wp2_with (fail)
      go_meet
      case rel => 
        refine ⟨n + 2, by omega, ?_, C3.rd (GX.setCell (p := ⟨R, 1, none⟩) (GX.refl R w3) (.inl rfl) (.int .i64 ((n : Int) + 1 + 1))) (by have t := C3.r.setAt (n + 2); rwa [show ((n + 2 : Nat) : Int) = (n : Int) + 1 + 1 by omega] at t) hRw⟩
        have := HT.out.2.2.1
        simp only [cond_true, List.drop_drop] at this
        exact this.symm
  case rest =>
  obtain ⟨n1, hn1, hd1, C⟩ := hcut
  have HK := Lib.hid HT.out.2.2.2
  have HT0 := Lib.hid HT.out.1
  go_wp2_with (fail)
  go_loopw [6] (fun v wr => ∃ (first : Bool) (G : Bs) (n1 k : Nat), v = .bool first ∧ n1 ≤ s.size ∧ (s.data.toList.drop n1).length < k ∧ CQ R w G s n1 d e g A code wr ∧ Hid (clsS k first G (s.data.toList.drop n1) = T)) (fun _ wr => s.size + 1 - rdN R wr)
  case atStart => exact ⟨true, noB, n1, K, rfl, hn1, by rw [hd1]; exact HK.out, C, Lib.hid (by rw [hd1]; exact HT0.out)⟩
  case round =>
    clear C HT HT0 HK hd1 hn1
    obtain ⟨first, G, n1, k, rfl, hn1, hk, C, HC⟩ := hrel
    obtain ⟨k, rfl⟩ : ∃ j, k = j + 1 := ⟨k - 1, by omega⟩
    have Hmn := Lib.hid C.r.n
    obtain ⟨r, hr⟩ : ∃ r, r = s.data.toList.drop n1 := ⟨_, rfl⟩
    rw [← hr] at hk HC
    have hrl : r.length = s.size - n1 := by rw [hr]; simp
    have Hr := Lib.hid hr
    clear hr
    go_upto_region 7 with (fail)
    go_cut [35] from 30 to 140 (fun p wx => p = .bool (first || !headIs 93 r) ∧ Gr wr wx)
    case first =>
      have QM := Lib.hid (fun (W : World) (hW : RfW W R s n1 d e g A code) => more_any hW hs 93)
      rw [← Hr.out] at QM
      cases first
      · cases h93 : headIs 93 r
        all_goals
          rw [h93] at QM
          have H93 := Lib.hid h93
          clear h93
          go_wp2_with (go_at_call 24; refine (QM.out _ C.r).mono ?_; rintro x w4 ⟨rfl, g4⟩)
          go_meet
          case rel => exact ⟨by rw [H93.out]; rfl, g4⟩
      · go_wp2_with (fail)
        go_meet
        case rel => exact ⟨rfl, Gr.refl _⟩
    case rest =>
    obtain ⟨rfl, gc⟩ := hcut
    have Cc := C.gr gc
    clear C gc
    cases hgo : (first || !headIs 93 r)
    case false =>
      have h93 : headIs 93 r = true := by
        cases e : headIs 93 r
        · rw [e] at hgo; simp at hgo
        · rfl
      have hTe : T = (some G, r.drop 1) := by
        rw [← HC.out]
        unfold clsS
        rw [hgo]; rfl
      obtain ⟨y, t, hyt, -⟩ := headIs_cons h93
      have hl1 : n1 + 1 ≤ s.size := by
        have := congrArg List.length hyt
        simp at this
        omega
      have hn14 : (n1 : Int) < 4096 := by omega
      obtain ⟨cc1, hc1⟩ := id Cc.r
      obtain ⟨c1, f1⟩ := And.intro hc1.c1 hc1.f1
      have HTe := Lib.hid hTe
      have Hyt := Lib.hid hyt
      clear hc1 hTe hyt h93 hgo
      go_upto_region 23 with (fail)
      have C2 := Cc.rd (GX.setCell (p := ⟨R, 1, none⟩) (GX.refl R wc) (.inl rfl) (.int .i64 ((n1 : Int) + 1))) (by have t := Cc.r.setAt (n1 + 1); rwa [show ((n1 + 1 : Nat) : Int) = (n1 : Int) + 1 by omega] at t) hRw
      clear Cc c1 f1
      generalize wc.setCell ⟨R, 1, none⟩ (.int .i64 ((n1 : Int) + 1)) = w9 at C2 ⊢
      go_wp2_with (fail)
      go_loopw [12] (fun i wr => ∃ j : Nat, j ≤ 256 ∧ i = .int .i64 j ∧ CQ R w (fun q => bif decide (q < j) then (G q != nt) else G q) s (n1 + 1) d e g A code wr) (fun i _ => 256 - (intOf i).toNat)
      case atStart => exact ⟨0, by omega, rfl, C2.x, C2.b, C2.a.eq fun i _ => by simp, C2.r⟩
      case round =>
        clear C2
        obtain ⟨j, hj, rfl, C3⟩ := hrel
        by_cases hlt : j < 256
        · have h3 : (j : Int) < 256 := by omega
          have hcell := C3.a.cell hlt
          rw [show (bif decide (j < j) then (G j != nt) else G j) = G j by simp] at hcell
          have hf := C3.a.free j
          have HC3 := Lib.hid C3
          have hst : ∀ v, (G j != nt) = v → ∀ q, q < 256 → (bif q == j then v else (bif decide (q < j) then (G q != nt) else G q)) = (bif decide (q < j + 1) then (G q != nt) else G q) := fun v hv q _ => by
            by_cases hq : q = j
            · subst hq; simp [hv]
            · have e1 : (q == j) = false := by simpa using hq
              have e2 : decide (q < j + 1) = decide (q < j) := by rw [decide_eq_decide]; omega
              simp only [e1, cond_false, e2]
          have Hst := Lib.hid hst
          clear hst C3
          cases hb : G j
          all_goals
            rw [hb] at hcell Hst
            clear hb
            cases nt
            all_goals
              go_wp2_with (fail)
              go_roundw
              case rel => exact ⟨j + 1, by omega, by go_num, HC3.out.cell hRw j _ hAw (Hst.out _ rfl)⟩
              case measure => simp [intOf]; omega
        · have hj' : j = 256 := by omega
          subst hj'
          obtain ⟨cx, cb, ca, cr⟩ := C3
          have ca' : SetQ wr (w.heap.size + 1) (bif nt then notB G else G) := ca.eq fun i hi => by simp [hi]; cases nt <;> simp [notB]
          clear ca
          go_wp2_with (first
            | (refine wpList_load_row rfl 72 (.tmp 4) rfl ((w.heap.size + 1)) rfl _ (bsA (bif nt then notB G else G)) (0, 0) _ ca' und_arr rfl (size_bsQ _) ?_)
            | (refine wpList_store_row rfl 72 (.tmp 2) (.tmp 159) rfl (w.heap.size) (bsA (bif nt then notB G else G)) rfl rfl _ _ cb (size_bsQ _) (by simp only [bsA_size]) (bsA_one _) ?_))
          refine bodyPost_ret (v := .tuple #[.agg (bsA (bif nt then notB G else G)), .bool true]) (res_arr2 _ 2 3 (by kernel_rfl) _ _ w.heap.size _ _ rfl rfl (SetQ.row cb)) rfl ?_
          rw [HTe.out]
          refine ⟨_, n1 + 1, rfl, cr.row' (by omega) (fun e => by have := hAw _ e; omega), cx.setRow (.inr (Nat.le_refl _)) _, by omega, fun F hF => ?_⟩
          injection hF with hF
          refine ⟨hF, ?_, by omega⟩
          have := Hr.out
          show _ = r.drop 1
          rw [this, List.drop_drop]
    case true =>
      have e2 := HC.out
      unfold clsS at e2
      rw [hgo] at e2
      simp only [cond_true] at e2
      have hgo' := Lib.hid hgo
      clear hgo HC
      have hn14 : (n1 : Int) ≤ 4096 := by omega
      rcases hx : sideS r with ⟨_ | ⟨f0, a0, wd⟩, r1⟩
      · rw [hx] at e2
        simp only at e2
        obtain ⟨n', c', f', hn', hn2, HI⟩ := item_none Cc.r hs hn1 (by rw [← Hr.out]; exact hx)
        have HE := Lib.hid e2
        have HI' := Lib.hid (fun (W : World) (hW : RfW W R s n1 d e g A code) => HI hW)
        clear e2 hx HI
        go_upto_region 11 with (first
          | (go_at_call 55; refine (HI'.out _ Cc.r).mono ?_; rintro x w5 ⟨rfl, h5, x5⟩; have C5 := Cc.rd x5 h5 hRw)
          | (refine wpList_store_row rfl 72 (.tmp 8) (.tmp 40) rfl w5.heap.size (bsA f') rfl rfl _ _ (SetQ.new w5 noB) (size_bsQ _) (by simp only [bsA_size]) (bsA_one _) ?_; have C6 := C5.gr (Gr.setRow (Gr.alloc (Gr.refl w5) (.cells (bsA noB) 72)) (g := w5.heap.size) (Nat.le_refl _) (bsA f'))))
        obtain ⟨cx, cb, ca, cr⟩ := id C6
        go_wp2_with (first
          | (refine wpList_load_row rfl 72 (.tmp 4) rfl ((w.heap.size + 1)) rfl _ (bsA (G)) (0, 0) _ ca und_arr rfl (size_bsQ _) ?_)
          | (refine wpList_store_row rfl 72 (.tmp 2) (.tmp 44) rfl (w.heap.size) (bsA (G)) rfl rfl _ _ cb (size_bsQ _) (by simp only [bsA_size]) (bsA_one _) ?_))
        refine bodyPost_ret (v := .tuple #[.agg (bsA G), .bool false]) (res_arr2 _ 2 3 (by kernel_rfl) _ _ w.heap.size _ _ rfl rfl (SetQ.row cb)) rfl ?_
        rw [← HE.out]
        exact ⟨G, n', rfl, cr.row' (by omega) (fun e => by have := hAw _ e; omega), cx.setRow (.inr (Nat.le_refl _)) _, hn2, fun F hF => by cases hF⟩
      · rw [hx] at e2
        simp only at e2
        obtain ⟨n2, hd2, hlt2, hn2, ha256, hf0, hnm, HI⟩ := item_some Cc.r hs hn1 (by rw [← Hr.out]; exact hx)
        have HE := Lib.hid e2
        have HI' := Lib.hid (fun (W : World) (hW : RfW W R s n1 d e g A code) => HI hW)
        have HF := Lib.hid (And.intro hd2 (And.intro hf0 hnm))
        clear e2 hx HI hd2 hf0 hnm
        obtain ⟨X, hX⟩ : ∃ X : Bs, X = (bif wd then f0 else noB) := ⟨_, rfl⟩
        obtain ⟨a, ha⟩ : ∃ a : Nat, a = (bif wd then 0 else a0) := ⟨_, rfl⟩
        rw [← hX, ← ha] at HI'
        have Hxa := Lib.hid (And.intro hX ha)
        have ha2 : a < 256 := by rw [ha]; cases wd <;> simp <;> omega
        clear hX ha
        go_upto_region 13 with (first
          | (go_at_call 55; refine (HI'.out _ Cc.r).mono ?_; rintro x w5 ⟨rfl, h5, x5⟩; have C5 := Cc.rd x5 h5 hRw; have zg : w.heap.size + 1 < w5.heap.size := C5.a.lt; have hzg : w5.heap.size ≠ R := (by omega))
          | (refine wpList_store_row rfl 72 (.tmp 8) (.tmp 40) rfl w5.heap.size (bsA X) rfl rfl _ _ (SetQ.new w5 noB) (size_bsQ _) (by simp only [bsA_size]) (bsA_one _) ?_; have C6 := C5.gr (Gr.setRow (Gr.alloc (Gr.refl w5) (.cells (bsA noB) 72)) (g := w5.heap.size) (Nat.le_refl _) (bsA X)); have hX6 : SetQ ((w5.alloc (.cells (bsA noB) 72)).setRow w5.heap.size (bsA X)) w5.heap.size X := SetQ.row (SetQ.new w5 noB)))
        clear C5 x5 h5 Cc HI'
        generalize (w5.alloc (.cells (bsA noB) 72)).setRow w5.heap.size (bsA X) = w6 at C6 hX6 ⊢
        obtain ⟨gx, hgx⟩ : ∃ gx, gx = w5.heap.size := ⟨_, rfl⟩
        rw [← hgx] at zg hzg hX6 ⊢
        clear hgx
        go_cut [88] from 30 to 140 (fun p wx => p = .bool (!wd && rangesS r1) ∧ Gr w6 wx)
        case first =>
          have hzR : R < w6.heap.size := C6.r.lt
          obtain ⟨cc6, hc6⟩ := id C6.r
          obtain ⟨c0, c1⟩ := And.intro hc6.c0 hc6.c1
          clear hc6
          have hr1l : r1.length = s.size - n2 := by rw [← HF.out.1]; simp
          have hn24 : (n2 : Int) ≤ 4096 := by omega
          have hw1 : IntKind.i64.wrap ((n2 : Int) + 1) = (n2 : Int) + 1 := IntWalk.i64_in _ (by omega)
          obtain ⟨hXe, -⟩ := Hxa.out
          cases wd
          · simp only [cond_false] at hXe
            subst hXe
            have HM0 := fun (W : World) (hW : Gr w6 W) => more_any (C6.r.gr hW) hs 45
            rw [HF.out.1] at HM0
            have HM1 := Lib.hid HM0
            clear HM0
            cases h45 : headIs 45 r1
            · have HM : Hid (∀ W, Gr w6 W → Calls Try.prog 24 #[.pointer (some ⟨R, 0, none⟩), .int .u8 45] W fun x w' => x = .returned (.bool false) ∧ Gr W w') := Lib.hid (fun W hW => by have t := HM1.out W hW; rw [h45] at t; exact t)
              have H45 := Lib.hid (ranges_45 h45)
              clear h45
              refine region_R (by kernel_rfl) (by kernel_rfl) ?_
              refine r_val (v := .agg (bsA (noB))) (by kernel_rfl) (fun W hW => ?qh1) ?qr1
              case qh1 => exact exec_load_row _ _ rfl gx rfl (SetQ.gr hX6 hW) und_arr rfl (size_bsQ _)
              simp only [Act.put, List.setIfInBounds_toArray, List.set_cons_zero, List.set_cons_succ]
              refine r_val (v := ?qv2) (by kernel_rfl) (fun W hW => ?qh2) ?qr2
              case qh2 =>
                go_light
                go_simp
                rfl
              simp only [Act.put, List.setIfInBounds_toArray, List.set_cons_zero, List.set_cons_succ]
              refine r_val (v := ?qv3) (by kernel_rfl) (fun W hW => ?qh3) ?qr3
              case qh3 =>
                have hq := eqn_none
                go_light
                go_simp
                rfl
              simp only [Act.put, List.setIfInBounds_toArray, List.set_cons_zero, List.set_cons_succ]
              refine r_val (v := ?qv4) (by kernel_rfl) (fun W hW => ?qh4) ?qr4
              case qh4 =>
                go_light
                go_simp
                rfl
              simp only [Act.put, List.setIfInBounds_toArray, List.set_cons_zero, List.set_cons_succ]
              refine r_val (v := ?qv5) (by kernel_rfl) (fun W hW => ?qh5) ?qr5
              case qh5 =>
                go_light
                go_simp
                rfl
              simp only [Act.put, List.setIfInBounds_toArray, List.set_cons_zero, List.set_cons_succ]
              refine r_call (v := .bool false) (f := ?qf6) (args := ?qa6) (by kernel_rfl) (fun W hW => ?qh6) (fun W hW => ?qc6) ?qr6
              case qh6 =>
                go_light
                go_simp
                constructor
                · rfl
                · rfl
              case qc6 => exact (HM.out W hW).mono (fun e w' h => ⟨h.1, Gr.trans hW h.2⟩)
              simp only [Act.put, List.setIfInBounds_toArray, List.set_cons_zero, List.set_cons_succ]
              refine r_val (v := ?qv7) (by kernel_rfl) (fun W hW => ?qh7) ?qr7
              case qh7 =>
                go_light
                go_simp
                rfl
              simp only [Act.put, List.setIfInBounds_toArray, List.set_cons_zero, List.set_cons_succ]
              refine r_val (v := ?qv8) (by kernel_rfl) (fun W hW => ?qh8) ?qr8
              case qh8 =>
                go_light
                go_simp
                rfl
              simp only [Act.put, List.setIfInBounds_toArray, List.set_cons_zero, List.set_cons_succ]
              refine r_skip (by kernel_rfl) ?_
              simp only [Act.put, List.setIfInBounds_toArray, List.set_cons_zero, List.set_cons_succ]
              refine r_skip (by kernel_rfl) ?_
              simp only [Act.put, List.setIfInBounds_toArray, List.set_cons_zero, List.set_cons_succ]
              refine r_skip (by kernel_rfl) ?_
              simp only [Act.put, List.setIfInBounds_toArray, List.set_cons_zero, List.set_cons_succ]
              refine r_skip (by kernel_rfl) ?_
              simp only [Act.put, List.setIfInBounds_toArray, List.set_cons_zero, List.set_cons_succ]
              refine r_skip (by kernel_rfl) ?_
              simp only [Act.put, List.setIfInBounds_toArray, List.set_cons_zero, List.set_cons_succ]
              refine r_skip (by kernel_rfl) ?_
              simp only [Act.put, List.setIfInBounds_toArray, List.set_cons_zero, List.set_cons_succ]
              refine r_skip (by kernel_rfl) ?_
              simp only [Act.put, List.setIfInBounds_toArray, List.set_cons_zero, List.set_cons_succ]
              refine r_skip (by kernel_rfl) ?_
              simp only [Act.put, List.setIfInBounds_toArray, List.set_cons_zero, List.set_cons_succ]
              refine r_skip (by kernel_rfl) ?_
              simp only [Act.put, List.setIfInBounds_toArray, List.set_cons_zero, List.set_cons_succ]
              refine r_skip (by kernel_rfl) ?_
              simp only [Act.put, List.setIfInBounds_toArray, List.set_cons_zero, List.set_cons_succ]
              refine r_skip (by kernel_rfl) ?_
              simp only [Act.put, List.setIfInBounds_toArray, List.set_cons_zero, List.set_cons_succ]
              refine r_val (v := ?qv9) (by kernel_rfl) (fun W hW => ?qh9) ?qr9
              case qh9 =>
                go_light
                go_simp
                rfl
              simp only [Act.put, List.setIfInBounds_toArray, List.set_cons_zero, List.set_cons_succ]
              refine r_val (v := ?qv10) (by kernel_rfl) (fun W hW => ?qh10) ?qr10
              case qh10 =>
                go_light
                go_simp
                rfl
              simp only [Act.put, List.setIfInBounds_toArray, List.set_cons_zero, List.set_cons_succ]
              refine r_skip (by kernel_rfl) ?_
              simp only [Act.put, List.setIfInBounds_toArray, List.set_cons_zero, List.set_cons_succ]
              refine r_skip (by kernel_rfl) ?_
              simp only [Act.put, List.setIfInBounds_toArray, List.set_cons_zero, List.set_cons_succ]
              refine r_skip (by kernel_rfl) ?_
              simp only [Act.put, List.setIfInBounds_toArray, List.set_cons_zero, List.set_cons_succ]
              refine r_skip (by kernel_rfl) ?_
              simp only [Act.put, List.setIfInBounds_toArray, List.set_cons_zero, List.set_cons_succ]
              refine r_skip (by kernel_rfl) ?_
              simp only [Act.put, List.setIfInBounds_toArray, List.set_cons_zero, List.set_cons_succ]
              refine r_skip (by kernel_rfl) ?_
              simp only [Act.put, List.setIfInBounds_toArray, List.set_cons_zero, List.set_cons_succ]
              refine r_skip (by kernel_rfl) ?_
              simp only [Act.put, List.setIfInBounds_toArray, List.set_cons_zero, List.set_cons_succ]
              refine r_skip (by kernel_rfl) ?_
              simp only [Act.put, List.setIfInBounds_toArray, List.set_cons_zero, List.set_cons_succ]
              refine r_skip (by kernel_rfl) ?_
              simp only [Act.put, List.setIfInBounds_toArray, List.set_cons_zero, List.set_cons_succ]
              refine r_skip (by kernel_rfl) ?_
              simp only [Act.put, List.setIfInBounds_toArray, List.set_cons_zero, List.set_cons_succ]
              refine r_skip (by kernel_rfl) ?_
              simp only [Act.put, List.setIfInBounds_toArray, List.set_cons_zero, List.set_cons_succ]
              refine r_val (v := ?qv11) (by kernel_rfl) (fun W hW => ?qh11) ?qr11
              case qh11 =>
                go_light
                go_simp
                rfl
              simp only [Act.put, List.setIfInBounds_toArray, List.set_cons_zero, List.set_cons_succ]
              refine r_val (v := ?qv12) (by kernel_rfl) (fun W hW => ?qh12) ?qr12
              case qh12 =>
                go_light
                go_simp
                rfl
              simp only [Act.put, List.setIfInBounds_toArray, List.set_cons_zero, List.set_cons_succ]
              refine r_skip (by kernel_rfl) ?_
              simp only [Act.put, List.setIfInBounds_toArray, List.set_cons_zero, List.set_cons_succ]
              refine r_skip (by kernel_rfl) ?_
              simp only [Act.put, List.setIfInBounds_toArray, List.set_cons_zero, List.set_cons_succ]
              refine r_skip (by kernel_rfl) ?_
              simp only [Act.put, List.setIfInBounds_toArray, List.set_cons_zero, List.set_cons_succ]
              refine r_skip (by kernel_rfl) ?_
              simp only [Act.put, List.setIfInBounds_toArray, List.set_cons_zero, List.set_cons_succ]
              refine r_skip (by kernel_rfl) ?_
              simp only [Act.put, List.setIfInBounds_toArray, List.set_cons_zero, List.set_cons_succ]
              refine r_skip (by kernel_rfl) ?_
              simp only [Act.put, List.setIfInBounds_toArray, List.set_cons_zero, List.set_cons_succ]
              refine r_skip (by kernel_rfl) ?_
              simp only [Act.put, List.setIfInBounds_toArray, List.set_cons_zero, List.set_cons_succ]
              refine r_skip (by kernel_rfl) ?_
              simp only [Act.put, List.setIfInBounds_toArray, List.set_cons_zero, List.set_cons_succ]
              refine r_val (v := ?qv13) (by kernel_rfl) (fun W hW => ?qh13) ?qr13
              case qh13 =>
                go_light
                go_simp
                rfl
              simp only [Act.put, List.setIfInBounds_toArray, List.set_cons_zero, List.set_cons_succ]
              refine r_nil ?_
              intro w7 hw7
              go_wp2_with (fail)
              go_meet
              case rel => exact ⟨by rw [H45.out]; rfl, hw7⟩
            · have HM : Hid (∀ W, Gr w6 W → Calls Try.prog 24 #[.pointer (some ⟨R, 0, none⟩), .int .u8 45] W fun x w' => x = .returned (.bool true) ∧ Gr W w') := Lib.hid (fun W hW => by have t := HM1.out W hW; rw [h45] at t; exact t)
              obtain ⟨y, t1, rfl, hy45⟩ := headIs_cons h45
              have Hy := Lib.hid hy45
              clear h45 hy45 HM1
              match t1 with
              | [] =>
                have hE : decide ((n2 : Int) + 1 < (s.size : Int)) = false := by simp at hr1l ⊢; omega
                clear hr1l
                refine region_R (by kernel_rfl) (by kernel_rfl) ?_
                refine r_val (v := .agg (bsA (noB))) (by kernel_rfl) (fun W hW => ?qh14) ?qr14
                case qh14 => exact exec_load_row _ _ rfl gx rfl (SetQ.gr hX6 hW) und_arr rfl (size_bsQ _)
                simp only [Act.put, List.setIfInBounds_toArray, List.set_cons_zero, List.set_cons_succ]
                refine r_val (v := ?qv15) (by kernel_rfl) (fun W hW => ?qh15) ?qr15
                case qh15 =>
                  go_light
                  go_simp
                  rfl
                simp only [Act.put, List.setIfInBounds_toArray, List.set_cons_zero, List.set_cons_succ]
                refine r_val (v := ?qv16) (by kernel_rfl) (fun W hW => ?qh16) ?qr16
                case qh16 =>
                  have hq := eqn_none
                  go_light
                  go_simp
                  rfl
                simp only [Act.put, List.setIfInBounds_toArray, List.set_cons_zero, List.set_cons_succ]
                refine r_val (v := ?qv17) (by kernel_rfl) (fun W hW => ?qh17) ?qr17
                case qh17 =>
                  go_light
                  go_simp
                  rfl
                simp only [Act.put, List.setIfInBounds_toArray, List.set_cons_zero, List.set_cons_succ]
                refine r_val (v := ?qv18) (by kernel_rfl) (fun W hW => ?qh18) ?qr18
                case qh18 =>
                  go_light
                  go_simp
                  rfl
                simp only [Act.put, List.setIfInBounds_toArray, List.set_cons_zero, List.set_cons_succ]
                refine r_call (v := .bool true) (f := ?qf19) (args := ?qa19) (by kernel_rfl) (fun W hW => ?qh19) (fun W hW => ?qc19) ?qr19
                case qh19 =>
                  go_light
                  go_simp
                  constructor
                  · rfl
                  · rfl
                case qc19 => exact (HM.out W hW).mono (fun e w' h => ⟨h.1, Gr.trans hW h.2⟩)
                simp only [Act.put, List.setIfInBounds_toArray, List.set_cons_zero, List.set_cons_succ]
                refine r_val (v := ?qv20) (by kernel_rfl) (fun W hW => ?qh20) ?qr20
                case qh20 =>
                  go_light
                  go_simp
                  rfl
                simp only [Act.put, List.setIfInBounds_toArray, List.set_cons_zero, List.set_cons_succ]
                refine r_val (v := ?qv21) (by kernel_rfl) (fun W hW => ?qh21) ?qr21
                case qh21 =>
                  go_light
                  go_simp
                  rfl
                simp only [Act.put, List.setIfInBounds_toArray, List.set_cons_zero, List.set_cons_succ]
                refine r_val (v := ?qv22) (by kernel_rfl) (fun W hW => ?qh22) ?qr22
                case qh22 =>
                  go_light
                  go_simp
                  rfl
                simp only [Act.put, List.setIfInBounds_toArray, List.set_cons_zero, List.set_cons_succ]
                refine r_val (v := ?qv23) (by kernel_rfl) (fun W hW => ?qh23) ?qr23
                case qh23 =>
                  go_light
                  go_simp
                  rfl
                simp only [Act.put, List.setIfInBounds_toArray, List.set_cons_zero, List.set_cons_succ]
                refine r_val (v := ?qv24) (by kernel_rfl) (fun W hW => ?qh24) ?qr24
                case qh24 =>
                  go_light
                  go_simp
                  rfl
                simp only [Act.put, List.setIfInBounds_toArray, List.set_cons_zero, List.set_cons_succ]
                refine r_val (v := ?qv25) (by kernel_rfl) (fun W hW => ?qh25) ?qr25
                case qh25 =>
                  have q1 := (Below.cell hW (p := ⟨R, 1, none⟩) hzR).trans c1
                  go_light
                  go_simp
                  rfl
                simp only [Act.put, List.setIfInBounds_toArray, List.set_cons_zero, List.set_cons_succ]
                refine r_val (v := ?qv26) (by kernel_rfl) (fun W hW => ?qh26) ?qr26
                case qh26 =>
                  go_light
                  go_simp
                  rfl
                simp only [Act.put, List.setIfInBounds_toArray, List.set_cons_zero, List.set_cons_succ]
                refine r_val (v := ?qv27) (by kernel_rfl) (fun W hW => ?qh27) ?qr27
                case qh27 =>
                  go_light
                  go_simp
                  rfl
                simp only [Act.put, List.setIfInBounds_toArray, List.set_cons_zero, List.set_cons_succ]
                refine r_val (v := ?qv28) (by kernel_rfl) (fun W hW => ?qh28) ?qr28
                case qh28 =>
                  go_light
                  go_simp
                  rfl
                simp only [Act.put, List.setIfInBounds_toArray, List.set_cons_zero, List.set_cons_succ]
                refine r_val (v := ?qv29) (by kernel_rfl) (fun W hW => ?qh29) ?qr29
                case qh29 =>
                  go_light
                  go_simp
                  rfl
                simp only [Act.put, List.setIfInBounds_toArray, List.set_cons_zero, List.set_cons_succ]
                refine r_val (v := ?qv30) (by kernel_rfl) (fun W hW => ?qh30) ?qr30
                case qh30 =>
                  have q0 := (Below.cell hW (p := ⟨R, 0, none⟩) hzR).trans c0
                  go_light
                  go_simp
                  rfl
                simp only [Act.put, List.setIfInBounds_toArray, List.set_cons_zero, List.set_cons_succ]
                refine r_val (v := ?qv31) (by kernel_rfl) (fun W hW => ?qh31) ?qr31
                case qh31 =>
                  go_light
                  go_simp
                  rfl
                simp only [Act.put, List.setIfInBounds_toArray, List.set_cons_zero, List.set_cons_succ]
                refine r_val (v := ?qv32) (by kernel_rfl) (fun W hW => ?qh32) ?qr32
                case qh32 =>
                  go_light
                  go_simp
                  rfl
                simp only [Act.put, List.setIfInBounds_toArray, List.set_cons_zero, List.set_cons_succ]
                refine r_val (v := ?qv33) (by kernel_rfl) (fun W hW => ?qh33) ?qr33
                case qh33 =>
                  go_light
                  go_simp
                  rfl
                simp only [Act.put, List.setIfInBounds_toArray, List.set_cons_zero, List.set_cons_succ]
                refine r_val (v := ?qv34) (by kernel_rfl) (fun W hW => ?qh34) ?qr34
                case qh34 =>
                  go_light
                  go_simp
                  rfl
                simp only [Act.put, List.setIfInBounds_toArray, List.set_cons_zero, List.set_cons_succ]
                refine r_skip (by kernel_rfl) ?_
                simp only [Act.put, List.setIfInBounds_toArray, List.set_cons_zero, List.set_cons_succ]
                refine r_skip (by kernel_rfl) ?_
                simp only [Act.put, List.setIfInBounds_toArray, List.set_cons_zero, List.set_cons_succ]
                refine r_skip (by kernel_rfl) ?_
                simp only [Act.put, List.setIfInBounds_toArray, List.set_cons_zero, List.set_cons_succ]
                refine r_skip (by kernel_rfl) ?_
                simp only [Act.put, List.setIfInBounds_toArray, List.set_cons_zero, List.set_cons_succ]
                refine r_skip (by kernel_rfl) ?_
                simp only [Act.put, List.setIfInBounds_toArray, List.set_cons_zero, List.set_cons_succ]
                refine r_skip (by kernel_rfl) ?_
                simp only [Act.put, List.setIfInBounds_toArray, List.set_cons_zero, List.set_cons_succ]
                refine r_skip (by kernel_rfl) ?_
                simp only [Act.put, List.setIfInBounds_toArray, List.set_cons_zero, List.set_cons_succ]
                refine r_skip (by kernel_rfl) ?_
                simp only [Act.put, List.setIfInBounds_toArray, List.set_cons_zero, List.set_cons_succ]
                refine r_skip (by kernel_rfl) ?_
                simp only [Act.put, List.setIfInBounds_toArray, List.set_cons_zero, List.set_cons_succ]
                refine r_skip (by kernel_rfl) ?_
                simp only [Act.put, List.setIfInBounds_toArray, List.set_cons_zero, List.set_cons_succ]
                refine r_skip (by kernel_rfl) ?_
                simp only [Act.put, List.setIfInBounds_toArray, List.set_cons_zero, List.set_cons_succ]
                refine r_val (v := ?qv35) (by kernel_rfl) (fun W hW => ?qh35) ?qr35
                case qh35 =>
                  go_light
                  go_simp
                  rfl
                simp only [Act.put, List.setIfInBounds_toArray, List.set_cons_zero, List.set_cons_succ]
                refine r_val (v := ?qv36) (by kernel_rfl) (fun W hW => ?qh36) ?qr36
                case qh36 =>
                  go_light
                  go_simp
                  rfl
                simp only [Act.put, List.setIfInBounds_toArray, List.set_cons_zero, List.set_cons_succ]
                refine r_skip (by kernel_rfl) ?_
                simp only [Act.put, List.setIfInBounds_toArray, List.set_cons_zero, List.set_cons_succ]
                refine r_skip (by kernel_rfl) ?_
                simp only [Act.put, List.setIfInBounds_toArray, List.set_cons_zero, List.set_cons_succ]
                refine r_skip (by kernel_rfl) ?_
                simp only [Act.put, List.setIfInBounds_toArray, List.set_cons_zero, List.set_cons_succ]
                refine r_skip (by kernel_rfl) ?_
                simp only [Act.put, List.setIfInBounds_toArray, List.set_cons_zero, List.set_cons_succ]
                refine r_skip (by kernel_rfl) ?_
                simp only [Act.put, List.setIfInBounds_toArray, List.set_cons_zero, List.set_cons_succ]
                refine r_skip (by kernel_rfl) ?_
                simp only [Act.put, List.setIfInBounds_toArray, List.set_cons_zero, List.set_cons_succ]
                refine r_skip (by kernel_rfl) ?_
                simp only [Act.put, List.setIfInBounds_toArray, List.set_cons_zero, List.set_cons_succ]
                refine r_skip (by kernel_rfl) ?_
                simp only [Act.put, List.setIfInBounds_toArray, List.set_cons_zero, List.set_cons_succ]
                refine r_val (v := ?qv37) (by kernel_rfl) (fun W hW => ?qh37) ?qr37
                case qh37 =>
                  go_light
                  go_simp
                  rfl
                simp only [Act.put, List.setIfInBounds_toArray, List.set_cons_zero, List.set_cons_succ]
                refine r_nil ?_
                intro w7 hw7
                go_wp2_with (fail)
                go_meet
                case rel => exact ⟨rfl, hw7⟩
              | dd :: t2 =>
                have hlt3 : n2 + 1 < s.size := by simp at hr1l; omega
                have hE : decide ((n2 : Int) + 1 < (s.size : Int)) = true := by simp; omega
                have hE2 : (n2 : Int) + 1 < (s.size : Int) := by omega
                have hE3 : (0 : Int) ≤ (n2 : Int) + 1 := by omega
                have hE4 : ((n2 : Int) + 1).toNat = n2 + 1 := by omega
                have hdd : s.data.toList.drop (n2 + 1) = dd :: t2 := by rw [← List.drop_drop, HF.out.1]; rfl
                have hdd2 : s[n2 + 1] = dd := by
                  rw [List.drop_eq_getElem_cons (by simp; omega)] at hdd
                  injection hdd with h1 _
                have Hdd := Lib.hid (And.intro hdd hdd2)
                by_cases h93 : dd.toNat = 93
                · have hq93 : ((s[n2 + 1].toNat : Int) != 93) = false := by rw [hdd2]; simp [h93]
                  have HR := Lib.hid (show rangesS (y :: dd :: t2) = false by simp [rangesS, h93])
                  clear hdd hdd2 h93 hr1l
                  refine region_R (by kernel_rfl) (by kernel_rfl) ?_
                  refine r_val (v := .agg (bsA (noB))) (by kernel_rfl) (fun W hW => ?qh38) ?qr38
                  case qh38 => exact exec_load_row _ _ rfl gx rfl (SetQ.gr hX6 hW) und_arr rfl (size_bsQ _)
                  simp only [Act.put, List.setIfInBounds_toArray, List.set_cons_zero, List.set_cons_succ]
                  refine r_val (v := ?qv39) (by kernel_rfl) (fun W hW => ?qh39) ?qr39
                  case qh39 =>
                    go_light
                    go_simp
                    rfl
                  simp only [Act.put, List.setIfInBounds_toArray, List.set_cons_zero, List.set_cons_succ]
                  refine r_val (v := ?qv40) (by kernel_rfl) (fun W hW => ?qh40) ?qr40
                  case qh40 =>
                    have hq := eqn_none
                    go_light
                    go_simp
                    rfl
                  simp only [Act.put, List.setIfInBounds_toArray, List.set_cons_zero, List.set_cons_succ]
                  refine r_val (v := ?qv41) (by kernel_rfl) (fun W hW => ?qh41) ?qr41
                  case qh41 =>
                    go_light
                    go_simp
                    rfl
                  simp only [Act.put, List.setIfInBounds_toArray, List.set_cons_zero, List.set_cons_succ]
                  refine r_val (v := ?qv42) (by kernel_rfl) (fun W hW => ?qh42) ?qr42
                  case qh42 =>
                    go_light
                    go_simp
                    rfl
                  simp only [Act.put, List.setIfInBounds_toArray, List.set_cons_zero, List.set_cons_succ]
                  refine r_call (v := .bool true) (f := ?qf43) (args := ?qa43) (by kernel_rfl) (fun W hW => ?qh43) (fun W hW => ?qc43) ?qr43
                  case qh43 =>
                    go_light
                    go_simp
                    constructor
                    · rfl
                    · rfl
                  case qc43 => exact (HM.out W hW).mono (fun e w' h => ⟨h.1, Gr.trans hW h.2⟩)
                  simp only [Act.put, List.setIfInBounds_toArray, List.set_cons_zero, List.set_cons_succ]
                  refine r_val (v := ?qv44) (by kernel_rfl) (fun W hW => ?qh44) ?qr44
                  case qh44 =>
                    go_light
                    go_simp
                    rfl
                  simp only [Act.put, List.setIfInBounds_toArray, List.set_cons_zero, List.set_cons_succ]
                  refine r_val (v := ?qv45) (by kernel_rfl) (fun W hW => ?qh45) ?qr45
                  case qh45 =>
                    go_light
                    go_simp
                    rfl
                  simp only [Act.put, List.setIfInBounds_toArray, List.set_cons_zero, List.set_cons_succ]
                  refine r_val (v := ?qv46) (by kernel_rfl) (fun W hW => ?qh46) ?qr46
                  case qh46 =>
                    go_light
                    go_simp
                    rfl
                  simp only [Act.put, List.setIfInBounds_toArray, List.set_cons_zero, List.set_cons_succ]
                  refine r_val (v := ?qv47) (by kernel_rfl) (fun W hW => ?qh47) ?qr47
                  case qh47 =>
                    go_light
                    go_simp
                    rfl
                  simp only [Act.put, List.setIfInBounds_toArray, List.set_cons_zero, List.set_cons_succ]
                  refine r_val (v := ?qv48) (by kernel_rfl) (fun W hW => ?qh48) ?qr48
                  case qh48 =>
                    go_light
                    go_simp
                    rfl
                  simp only [Act.put, List.setIfInBounds_toArray, List.set_cons_zero, List.set_cons_succ]
                  refine r_val (v := ?qv49) (by kernel_rfl) (fun W hW => ?qh49) ?qr49
                  case qh49 =>
                    have q1 := (Below.cell hW (p := ⟨R, 1, none⟩) hzR).trans c1
                    go_light
                    go_simp
                    rfl
                  simp only [Act.put, List.setIfInBounds_toArray, List.set_cons_zero, List.set_cons_succ]
                  refine r_val (v := ?qv50) (by kernel_rfl) (fun W hW => ?qh50) ?qr50
                  case qh50 =>
                    go_light
                    go_simp
                    rfl
                  simp only [Act.put, List.setIfInBounds_toArray, List.set_cons_zero, List.set_cons_succ]
                  refine r_val (v := ?qv51) (by kernel_rfl) (fun W hW => ?qh51) ?qr51
                  case qh51 =>
                    go_light
                    go_simp
                    rfl
                  simp only [Act.put, List.setIfInBounds_toArray, List.set_cons_zero, List.set_cons_succ]
                  refine r_val (v := ?qv52) (by kernel_rfl) (fun W hW => ?qh52) ?qr52
                  case qh52 =>
                    go_light
                    go_simp
                    rfl
                  simp only [Act.put, List.setIfInBounds_toArray, List.set_cons_zero, List.set_cons_succ]
                  refine r_val (v := ?qv53) (by kernel_rfl) (fun W hW => ?qh53) ?qr53
                  case qh53 =>
                    go_light
                    go_simp
                    rfl
                  simp only [Act.put, List.setIfInBounds_toArray, List.set_cons_zero, List.set_cons_succ]
                  refine r_val (v := ?qv54) (by kernel_rfl) (fun W hW => ?qh54) ?qr54
                  case qh54 =>
                    have q0 := (Below.cell hW (p := ⟨R, 0, none⟩) hzR).trans c0
                    go_light
                    go_simp
                    rfl
                  simp only [Act.put, List.setIfInBounds_toArray, List.set_cons_zero, List.set_cons_succ]
                  refine r_val (v := ?qv55) (by kernel_rfl) (fun W hW => ?qh55) ?qr55
                  case qh55 =>
                    go_light
                    go_simp
                    rfl
                  simp only [Act.put, List.setIfInBounds_toArray, List.set_cons_zero, List.set_cons_succ]
                  refine r_val (v := ?qv56) (by kernel_rfl) (fun W hW => ?qh56) ?qr56
                  case qh56 =>
                    go_light
                    go_simp
                    rfl
                  simp only [Act.put, List.setIfInBounds_toArray, List.set_cons_zero, List.set_cons_succ]
                  refine r_val (v := ?qv57) (by kernel_rfl) (fun W hW => ?qh57) ?qr57
                  case qh57 =>
                    go_light
                    go_simp
                    rfl
                  simp only [Act.put, List.setIfInBounds_toArray, List.set_cons_zero, List.set_cons_succ]
                  refine r_val (v := ?qv58) (by kernel_rfl) (fun W hW => ?qh58) ?qr58
                  case qh58 =>
                    go_light
                    go_simp
                    rfl
                  simp only [Act.put, List.setIfInBounds_toArray, List.set_cons_zero, List.set_cons_succ]
                  refine r_val (v := ?qv59) (by kernel_rfl) (fun W hW => ?qh59) ?qr59
                  case qh59 =>
                    go_light
                    go_simp
                    rfl
                  simp only [Act.put, List.setIfInBounds_toArray, List.set_cons_zero, List.set_cons_succ]
                  refine r_val (v := ?qv60) (by kernel_rfl) (fun W hW => ?qh60) ?qr60
                  case qh60 =>
                    go_light
                    go_simp
                    rfl
                  simp only [Act.put, List.setIfInBounds_toArray, List.set_cons_zero, List.set_cons_succ]
                  refine r_val (v := ?qv61) (by kernel_rfl) (fun W hW => ?qh61) ?qr61
                  case qh61 =>
                    go_light
                    go_simp
                    rfl
                  simp only [Act.put, List.setIfInBounds_toArray, List.set_cons_zero, List.set_cons_succ]
                  refine r_val (v := ?qv62) (by kernel_rfl) (fun W hW => ?qh62) ?qr62
                  case qh62 =>
                    have q0 := (Below.cell hW (p := ⟨R, 0, none⟩) hzR).trans c0
                    go_light
                    go_simp
                    rfl
                  simp only [Act.put, List.setIfInBounds_toArray, List.set_cons_zero, List.set_cons_succ]
                  refine r_val (v := ?qv63) (by kernel_rfl) (fun W hW => ?qh63) ?qr63
                  case qh63 =>
                    go_light
                    go_simp
                    rfl
                  simp only [Act.put, List.setIfInBounds_toArray, List.set_cons_zero, List.set_cons_succ]
                  refine r_val (v := ?qv64) (by kernel_rfl) (fun W hW => ?qh64) ?qr64
                  case qh64 =>
                    go_light
                    go_simp
                    rfl
                  simp only [Act.put, List.setIfInBounds_toArray, List.set_cons_zero, List.set_cons_succ]
                  refine r_val (v := ?qv65) (by kernel_rfl) (fun W hW => ?qh65) ?qr65
                  case qh65 =>
                    go_light
                    go_simp
                    rfl
                  simp only [Act.put, List.setIfInBounds_toArray, List.set_cons_zero, List.set_cons_succ]
                  refine r_val (v := ?qv66) (by kernel_rfl) (fun W hW => ?qh66) ?qr66
                  case qh66 =>
                    have q1 := (Below.cell hW (p := ⟨R, 1, none⟩) hzR).trans c1
                    go_light
                    go_simp
                    rfl
                  simp only [Act.put, List.setIfInBounds_toArray, List.set_cons_zero, List.set_cons_succ]
                  refine r_val (v := ?qv67) (by kernel_rfl) (fun W hW => ?qh67) ?qr67
                  case qh67 =>
                    go_light
                    go_simp
                    rfl
                  simp only [Act.put, List.setIfInBounds_toArray, List.set_cons_zero, List.set_cons_succ]
                  refine r_val (v := ?qv68) (by kernel_rfl) (fun W hW => ?qh68) ?qr68
                  case qh68 =>
                    go_light
                    go_simp
                    rfl
                  simp only [Act.put, List.setIfInBounds_toArray, List.set_cons_zero, List.set_cons_succ]
                  refine r_val (v := ?qv69) (by kernel_rfl) (fun W hW => ?qh69) ?qr69
                  case qh69 =>
                    go_light
                    go_simp
                    rfl
                  simp only [Act.put, List.setIfInBounds_toArray, List.set_cons_zero, List.set_cons_succ]
                  refine r_val (v := ?qv70) (by kernel_rfl) (fun W hW => ?qh70) ?qr70
                  case qh70 =>
                    go_light
                    go_simp
                    rfl
                  simp only [Act.put, List.setIfInBounds_toArray, List.set_cons_zero, List.set_cons_succ]
                  refine r_val (v := ?qv71) (by kernel_rfl) (fun W hW => ?qh71) ?qr71
                  case qh71 =>
                    go_light
                    go_simp
                    rfl
                  simp only [Act.put, List.setIfInBounds_toArray, List.set_cons_zero, List.set_cons_succ]
                  refine r_skip (by kernel_rfl) ?_
                  simp only [Act.put, List.setIfInBounds_toArray, List.set_cons_zero, List.set_cons_succ]
                  refine r_skip (by kernel_rfl) ?_
                  simp only [Act.put, List.setIfInBounds_toArray, List.set_cons_zero, List.set_cons_succ]
                  refine r_skip (by kernel_rfl) ?_
                  simp only [Act.put, List.setIfInBounds_toArray, List.set_cons_zero, List.set_cons_succ]
                  refine r_skip (by kernel_rfl) ?_
                  simp only [Act.put, List.setIfInBounds_toArray, List.set_cons_zero, List.set_cons_succ]
                  refine r_skip (by kernel_rfl) ?_
                  simp only [Act.put, List.setIfInBounds_toArray, List.set_cons_zero, List.set_cons_succ]
                  refine r_skip (by kernel_rfl) ?_
                  simp only [Act.put, List.setIfInBounds_toArray, List.set_cons_zero, List.set_cons_succ]
                  refine r_skip (by kernel_rfl) ?_
                  simp only [Act.put, List.setIfInBounds_toArray, List.set_cons_zero, List.set_cons_succ]
                  refine r_skip (by kernel_rfl) ?_
                  simp only [Act.put, List.setIfInBounds_toArray, List.set_cons_zero, List.set_cons_succ]
                  refine r_val (v := ?qv72) (by kernel_rfl) (fun W hW => ?qh72) ?qr72
                  case qh72 =>
                    go_light
                    go_simp
                    rfl
                  simp only [Act.put, List.setIfInBounds_toArray, List.set_cons_zero, List.set_cons_succ]
                  refine r_nil ?_
                  intro w7 hw7
                  go_wp2_with (fail)
                  go_meet
                  case rel => exact ⟨by rw [HR.out]; rfl, hw7⟩
                · have hq93 : ((s[n2 + 1].toNat : Int) != 93) = true := by rw [hdd2]; simp [bne, beq_eq_false_iff_ne.2 (show (dd.toNat : Int) ≠ 93 by omega)]
                  have HR := Lib.hid (ranges_six Hy.out h93 t2)
                  obtain ⟨V, hV⟩ : ∃ V, V = sxB (dd :: t2) := ⟨_, rfl⟩
                  rw [← hV] at HR
                  have HV : Hid (∀ W, Gr w6 W → Calls Try.prog 56 #[.pointer (some ⟨R, 0, none⟩), .int .i64 ((n2 : Int) + 1)] W fun x w' => x = .returned (.bool V) ∧ Gr W w') := Lib.hid (fun W hW => by
                    have t := sixat_any (C6.r.gr hW) hs (n2 + 1) (by omega)
                    rw [hdd, ← hV, show ((n2 + 1 : Nat) : Int) = (n2 : Int) + 1 by omega] at t
                    exact t)
                  clear hdd hdd2 h93 hr1l hV
                  cases V
                  · skip
                    refine region_R (by kernel_rfl) (by kernel_rfl) ?_
                    refine r_val (v := .agg (bsA (noB))) (by kernel_rfl) (fun W hW => ?qh73) ?qr73
                    case qh73 => exact exec_load_row _ _ rfl gx rfl (SetQ.gr hX6 hW) und_arr rfl (size_bsQ _)
                    simp only [Act.put, List.setIfInBounds_toArray, List.set_cons_zero, List.set_cons_succ]
                    refine r_val (v := ?qv74) (by kernel_rfl) (fun W hW => ?qh74) ?qr74
                    case qh74 =>
                      go_light
                      go_simp
                      rfl
                    simp only [Act.put, List.setIfInBounds_toArray, List.set_cons_zero, List.set_cons_succ]
                    refine r_val (v := ?qv75) (by kernel_rfl) (fun W hW => ?qh75) ?qr75
                    case qh75 =>
                      have hq := eqn_none
                      go_light
                      go_simp
                      rfl
                    simp only [Act.put, List.setIfInBounds_toArray, List.set_cons_zero, List.set_cons_succ]
                    refine r_val (v := ?qv76) (by kernel_rfl) (fun W hW => ?qh76) ?qr76
                    case qh76 =>
                      go_light
                      go_simp
                      rfl
                    simp only [Act.put, List.setIfInBounds_toArray, List.set_cons_zero, List.set_cons_succ]
                    refine r_val (v := ?qv77) (by kernel_rfl) (fun W hW => ?qh77) ?qr77
                    case qh77 =>
                      go_light
                      go_simp
                      rfl
                    simp only [Act.put, List.setIfInBounds_toArray, List.set_cons_zero, List.set_cons_succ]
                    refine r_call (v := .bool true) (f := ?qf78) (args := ?qa78) (by kernel_rfl) (fun W hW => ?qh78) (fun W hW => ?qc78) ?qr78
                    case qh78 =>
                      go_light
                      go_simp
                      constructor
                      · rfl
                      · rfl
                    case qc78 => exact (HM.out W hW).mono (fun e w' h => ⟨h.1, Gr.trans hW h.2⟩)
                    simp only [Act.put, List.setIfInBounds_toArray, List.set_cons_zero, List.set_cons_succ]
                    refine r_val (v := ?qv79) (by kernel_rfl) (fun W hW => ?qh79) ?qr79
                    case qh79 =>
                      go_light
                      go_simp
                      rfl
                    simp only [Act.put, List.setIfInBounds_toArray, List.set_cons_zero, List.set_cons_succ]
                    refine r_val (v := ?qv80) (by kernel_rfl) (fun W hW => ?qh80) ?qr80
                    case qh80 =>
                      go_light
                      go_simp
                      rfl
                    simp only [Act.put, List.setIfInBounds_toArray, List.set_cons_zero, List.set_cons_succ]
                    refine r_val (v := ?qv81) (by kernel_rfl) (fun W hW => ?qh81) ?qr81
                    case qh81 =>
                      go_light
                      go_simp
                      rfl
                    simp only [Act.put, List.setIfInBounds_toArray, List.set_cons_zero, List.set_cons_succ]
                    refine r_val (v := ?qv82) (by kernel_rfl) (fun W hW => ?qh82) ?qr82
                    case qh82 =>
                      go_light
                      go_simp
                      rfl
                    simp only [Act.put, List.setIfInBounds_toArray, List.set_cons_zero, List.set_cons_succ]
                    refine r_val (v := ?qv83) (by kernel_rfl) (fun W hW => ?qh83) ?qr83
                    case qh83 =>
                      go_light
                      go_simp
                      rfl
                    simp only [Act.put, List.setIfInBounds_toArray, List.set_cons_zero, List.set_cons_succ]
                    refine r_val (v := ?qv84) (by kernel_rfl) (fun W hW => ?qh84) ?qr84
                    case qh84 =>
                      have q1 := (Below.cell hW (p := ⟨R, 1, none⟩) hzR).trans c1
                      go_light
                      go_simp
                      rfl
                    simp only [Act.put, List.setIfInBounds_toArray, List.set_cons_zero, List.set_cons_succ]
                    refine r_val (v := ?qv85) (by kernel_rfl) (fun W hW => ?qh85) ?qr85
                    case qh85 =>
                      go_light
                      go_simp
                      rfl
                    simp only [Act.put, List.setIfInBounds_toArray, List.set_cons_zero, List.set_cons_succ]
                    refine r_val (v := ?qv86) (by kernel_rfl) (fun W hW => ?qh86) ?qr86
                    case qh86 =>
                      go_light
                      go_simp
                      rfl
                    simp only [Act.put, List.setIfInBounds_toArray, List.set_cons_zero, List.set_cons_succ]
                    refine r_val (v := ?qv87) (by kernel_rfl) (fun W hW => ?qh87) ?qr87
                    case qh87 =>
                      go_light
                      go_simp
                      rfl
                    simp only [Act.put, List.setIfInBounds_toArray, List.set_cons_zero, List.set_cons_succ]
                    refine r_val (v := ?qv88) (by kernel_rfl) (fun W hW => ?qh88) ?qr88
                    case qh88 =>
                      go_light
                      go_simp
                      rfl
                    simp only [Act.put, List.setIfInBounds_toArray, List.set_cons_zero, List.set_cons_succ]
                    refine r_val (v := ?qv89) (by kernel_rfl) (fun W hW => ?qh89) ?qr89
                    case qh89 =>
                      have q0 := (Below.cell hW (p := ⟨R, 0, none⟩) hzR).trans c0
                      go_light
                      go_simp
                      rfl
                    simp only [Act.put, List.setIfInBounds_toArray, List.set_cons_zero, List.set_cons_succ]
                    refine r_val (v := ?qv90) (by kernel_rfl) (fun W hW => ?qh90) ?qr90
                    case qh90 =>
                      go_light
                      go_simp
                      rfl
                    simp only [Act.put, List.setIfInBounds_toArray, List.set_cons_zero, List.set_cons_succ]
                    refine r_val (v := ?qv91) (by kernel_rfl) (fun W hW => ?qh91) ?qr91
                    case qh91 =>
                      go_light
                      go_simp
                      rfl
                    simp only [Act.put, List.setIfInBounds_toArray, List.set_cons_zero, List.set_cons_succ]
                    refine r_val (v := ?qv92) (by kernel_rfl) (fun W hW => ?qh92) ?qr92
                    case qh92 =>
                      go_light
                      go_simp
                      rfl
                    simp only [Act.put, List.setIfInBounds_toArray, List.set_cons_zero, List.set_cons_succ]
                    refine r_val (v := ?qv93) (by kernel_rfl) (fun W hW => ?qh93) ?qr93
                    case qh93 =>
                      go_light
                      go_simp
                      rfl
                    simp only [Act.put, List.setIfInBounds_toArray, List.set_cons_zero, List.set_cons_succ]
                    refine r_val (v := ?qv94) (by kernel_rfl) (fun W hW => ?qh94) ?qr94
                    case qh94 =>
                      go_light
                      go_simp
                      rfl
                    simp only [Act.put, List.setIfInBounds_toArray, List.set_cons_zero, List.set_cons_succ]
                    refine r_val (v := ?qv95) (by kernel_rfl) (fun W hW => ?qh95) ?qr95
                    case qh95 =>
                      go_light
                      go_simp
                      rfl
                    simp only [Act.put, List.setIfInBounds_toArray, List.set_cons_zero, List.set_cons_succ]
                    refine r_val (v := ?qv96) (by kernel_rfl) (fun W hW => ?qh96) ?qr96
                    case qh96 =>
                      go_light
                      go_simp
                      rfl
                    simp only [Act.put, List.setIfInBounds_toArray, List.set_cons_zero, List.set_cons_succ]
                    refine r_val (v := ?qv97) (by kernel_rfl) (fun W hW => ?qh97) ?qr97
                    case qh97 =>
                      have q0 := (Below.cell hW (p := ⟨R, 0, none⟩) hzR).trans c0
                      go_light
                      go_simp
                      rfl
                    simp only [Act.put, List.setIfInBounds_toArray, List.set_cons_zero, List.set_cons_succ]
                    refine r_val (v := ?qv98) (by kernel_rfl) (fun W hW => ?qh98) ?qr98
                    case qh98 =>
                      go_light
                      go_simp
                      rfl
                    simp only [Act.put, List.setIfInBounds_toArray, List.set_cons_zero, List.set_cons_succ]
                    refine r_val (v := ?qv99) (by kernel_rfl) (fun W hW => ?qh99) ?qr99
                    case qh99 =>
                      go_light
                      go_simp
                      rfl
                    simp only [Act.put, List.setIfInBounds_toArray, List.set_cons_zero, List.set_cons_succ]
                    refine r_val (v := ?qv100) (by kernel_rfl) (fun W hW => ?qh100) ?qr100
                    case qh100 =>
                      go_light
                      go_simp
                      rfl
                    simp only [Act.put, List.setIfInBounds_toArray, List.set_cons_zero, List.set_cons_succ]
                    refine r_val (v := ?qv101) (by kernel_rfl) (fun W hW => ?qh101) ?qr101
                    case qh101 =>
                      have q1 := (Below.cell hW (p := ⟨R, 1, none⟩) hzR).trans c1
                      go_light
                      go_simp
                      rfl
                    simp only [Act.put, List.setIfInBounds_toArray, List.set_cons_zero, List.set_cons_succ]
                    refine r_val (v := ?qv102) (by kernel_rfl) (fun W hW => ?qh102) ?qr102
                    case qh102 =>
                      go_light
                      go_simp
                      rfl
                    simp only [Act.put, List.setIfInBounds_toArray, List.set_cons_zero, List.set_cons_succ]
                    refine r_val (v := ?qv103) (by kernel_rfl) (fun W hW => ?qh103) ?qr103
                    case qh103 =>
                      go_light
                      go_simp
                      rfl
                    simp only [Act.put, List.setIfInBounds_toArray, List.set_cons_zero, List.set_cons_succ]
                    refine r_val (v := ?qv104) (by kernel_rfl) (fun W hW => ?qh104) ?qr104
                    case qh104 =>
                      go_light
                      go_simp
                      rfl
                    simp only [Act.put, List.setIfInBounds_toArray, List.set_cons_zero, List.set_cons_succ]
                    refine r_val (v := ?qv105) (by kernel_rfl) (fun W hW => ?qh105) ?qr105
                    case qh105 =>
                      go_light
                      go_simp
                      rfl
                    simp only [Act.put, List.setIfInBounds_toArray, List.set_cons_zero, List.set_cons_succ]
                    refine r_val (v := ?qv106) (by kernel_rfl) (fun W hW => ?qh106) ?qr106
                    case qh106 =>
                      go_light
                      go_simp
                      rfl
                    simp only [Act.put, List.setIfInBounds_toArray, List.set_cons_zero, List.set_cons_succ]
                    refine r_val (v := ?qv107) (by kernel_rfl) (fun W hW => ?qh107) ?qr107
                    case qh107 =>
                      go_light
                      go_simp
                      rfl
                    simp only [Act.put, List.setIfInBounds_toArray, List.set_cons_zero, List.set_cons_succ]
                    refine r_val (v := ?qv108) (by kernel_rfl) (fun W hW => ?qh108) ?qr108
                    case qh108 =>
                      go_light
                      go_simp
                      rfl
                    simp only [Act.put, List.setIfInBounds_toArray, List.set_cons_zero, List.set_cons_succ]
                    refine r_val (v := ?qv109) (by kernel_rfl) (fun W hW => ?qh109) ?qr109
                    case qh109 =>
                      go_light
                      go_simp
                      rfl
                    simp only [Act.put, List.setIfInBounds_toArray, List.set_cons_zero, List.set_cons_succ]
                    refine r_val (v := ?qv110) (by kernel_rfl) (fun W hW => ?qh110) ?qr110
                    case qh110 =>
                      go_light
                      go_simp
                      rfl
                    simp only [Act.put, List.setIfInBounds_toArray, List.set_cons_zero, List.set_cons_succ]
                    refine r_val (v := ?qv111) (by kernel_rfl) (fun W hW => ?qh111) ?qr111
                    case qh111 =>
                      have q1 := (Below.cell hW (p := ⟨R, 1, none⟩) hzR).trans c1
                      go_light
                      go_simp
                      rfl
                    simp only [Act.put, List.setIfInBounds_toArray, List.set_cons_zero, List.set_cons_succ]
                    refine r_val (v := ?qv112) (by kernel_rfl) (fun W hW => ?qh112) ?qr112
                    case qh112 =>
                      go_light
                      go_simp
                      rfl
                    simp only [Act.put, List.setIfInBounds_toArray, List.set_cons_zero, List.set_cons_succ]
                    refine r_call (v := .bool false) (f := ?qf113) (args := ?qa113) (by kernel_rfl) (fun W hW => ?qh113) (fun W hW => ?qc113) ?qr113
                    case qh113 =>
                      go_light
                      go_simp
                      constructor
                      · rfl
                      · rfl
                    case qc113 => exact (HV.out W hW).mono (fun e w' h => ⟨h.1, Gr.trans hW h.2⟩)
                    simp only [Act.put, List.setIfInBounds_toArray, List.set_cons_zero, List.set_cons_succ]
                    refine r_val (v := ?qv114) (by kernel_rfl) (fun W hW => ?qh114) ?qr114
                    case qh114 =>
                      go_light
                      go_simp
                      rfl
                    simp only [Act.put, List.setIfInBounds_toArray, List.set_cons_zero, List.set_cons_succ]
                    refine r_val (v := ?qv115) (by kernel_rfl) (fun W hW => ?qh115) ?qr115
                    case qh115 =>
                      go_light
                      go_simp
                      rfl
                    simp only [Act.put, List.setIfInBounds_toArray, List.set_cons_zero, List.set_cons_succ]
                    refine r_nil ?_
                    intro w7 hw7
                    go_wp2_with (fail)
                    go_meet
                    case rel => exact ⟨by rw [HR.out]; rfl, hw7⟩
                  · skip
                    refine region_R (by kernel_rfl) (by kernel_rfl) ?_
                    refine r_val (v := .agg (bsA (noB))) (by kernel_rfl) (fun W hW => ?qh116) ?qr116
                    case qh116 => exact exec_load_row _ _ rfl gx rfl (SetQ.gr hX6 hW) und_arr rfl (size_bsQ _)
                    simp only [Act.put, List.setIfInBounds_toArray, List.set_cons_zero, List.set_cons_succ]
                    refine r_val (v := ?qv117) (by kernel_rfl) (fun W hW => ?qh117) ?qr117
                    case qh117 =>
                      go_light
                      go_simp
                      rfl
                    simp only [Act.put, List.setIfInBounds_toArray, List.set_cons_zero, List.set_cons_succ]
                    refine r_val (v := ?qv118) (by kernel_rfl) (fun W hW => ?qh118) ?qr118
                    case qh118 =>
                      have hq := eqn_none
                      go_light
                      go_simp
                      rfl
                    simp only [Act.put, List.setIfInBounds_toArray, List.set_cons_zero, List.set_cons_succ]
                    refine r_val (v := ?qv119) (by kernel_rfl) (fun W hW => ?qh119) ?qr119
                    case qh119 =>
                      go_light
                      go_simp
                      rfl
                    simp only [Act.put, List.setIfInBounds_toArray, List.set_cons_zero, List.set_cons_succ]
                    refine r_val (v := ?qv120) (by kernel_rfl) (fun W hW => ?qh120) ?qr120
                    case qh120 =>
                      go_light
                      go_simp
                      rfl
                    simp only [Act.put, List.setIfInBounds_toArray, List.set_cons_zero, List.set_cons_succ]
                    refine r_call (v := .bool true) (f := ?qf121) (args := ?qa121) (by kernel_rfl) (fun W hW => ?qh121) (fun W hW => ?qc121) ?qr121
                    case qh121 =>
                      go_light
                      go_simp
                      constructor
                      · rfl
                      · rfl
                    case qc121 => exact (HM.out W hW).mono (fun e w' h => ⟨h.1, Gr.trans hW h.2⟩)
                    simp only [Act.put, List.setIfInBounds_toArray, List.set_cons_zero, List.set_cons_succ]
                    refine r_val (v := ?qv122) (by kernel_rfl) (fun W hW => ?qh122) ?qr122
                    case qh122 =>
                      go_light
                      go_simp
                      rfl
                    simp only [Act.put, List.setIfInBounds_toArray, List.set_cons_zero, List.set_cons_succ]
                    refine r_val (v := ?qv123) (by kernel_rfl) (fun W hW => ?qh123) ?qr123
                    case qh123 =>
                      go_light
                      go_simp
                      rfl
                    simp only [Act.put, List.setIfInBounds_toArray, List.set_cons_zero, List.set_cons_succ]
                    refine r_val (v := ?qv124) (by kernel_rfl) (fun W hW => ?qh124) ?qr124
                    case qh124 =>
                      go_light
                      go_simp
                      rfl
                    simp only [Act.put, List.setIfInBounds_toArray, List.set_cons_zero, List.set_cons_succ]
                    refine r_val (v := ?qv125) (by kernel_rfl) (fun W hW => ?qh125) ?qr125
                    case qh125 =>
                      go_light
                      go_simp
                      rfl
                    simp only [Act.put, List.setIfInBounds_toArray, List.set_cons_zero, List.set_cons_succ]
                    refine r_val (v := ?qv126) (by kernel_rfl) (fun W hW => ?qh126) ?qr126
                    case qh126 =>
                      go_light
                      go_simp
                      rfl
                    simp only [Act.put, List.setIfInBounds_toArray, List.set_cons_zero, List.set_cons_succ]
                    refine r_val (v := ?qv127) (by kernel_rfl) (fun W hW => ?qh127) ?qr127
                    case qh127 =>
                      have q1 := (Below.cell hW (p := ⟨R, 1, none⟩) hzR).trans c1
                      go_light
                      go_simp
                      rfl
                    simp only [Act.put, List.setIfInBounds_toArray, List.set_cons_zero, List.set_cons_succ]
                    refine r_val (v := ?qv128) (by kernel_rfl) (fun W hW => ?qh128) ?qr128
                    case qh128 =>
                      go_light
                      go_simp
                      rfl
                    simp only [Act.put, List.setIfInBounds_toArray, List.set_cons_zero, List.set_cons_succ]
                    refine r_val (v := ?qv129) (by kernel_rfl) (fun W hW => ?qh129) ?qr129
                    case qh129 =>
                      go_light
                      go_simp
                      rfl
                    simp only [Act.put, List.setIfInBounds_toArray, List.set_cons_zero, List.set_cons_succ]
                    refine r_val (v := ?qv130) (by kernel_rfl) (fun W hW => ?qh130) ?qr130
                    case qh130 =>
                      go_light
                      go_simp
                      rfl
                    simp only [Act.put, List.setIfInBounds_toArray, List.set_cons_zero, List.set_cons_succ]
                    refine r_val (v := ?qv131) (by kernel_rfl) (fun W hW => ?qh131) ?qr131
                    case qh131 =>
                      go_light
                      go_simp
                      rfl
                    simp only [Act.put, List.setIfInBounds_toArray, List.set_cons_zero, List.set_cons_succ]
                    refine r_val (v := ?qv132) (by kernel_rfl) (fun W hW => ?qh132) ?qr132
                    case qh132 =>
                      have q0 := (Below.cell hW (p := ⟨R, 0, none⟩) hzR).trans c0
                      go_light
                      go_simp
                      rfl
                    simp only [Act.put, List.setIfInBounds_toArray, List.set_cons_zero, List.set_cons_succ]
                    refine r_val (v := ?qv133) (by kernel_rfl) (fun W hW => ?qh133) ?qr133
                    case qh133 =>
                      go_light
                      go_simp
                      rfl
                    simp only [Act.put, List.setIfInBounds_toArray, List.set_cons_zero, List.set_cons_succ]
                    refine r_val (v := ?qv134) (by kernel_rfl) (fun W hW => ?qh134) ?qr134
                    case qh134 =>
                      go_light
                      go_simp
                      rfl
                    simp only [Act.put, List.setIfInBounds_toArray, List.set_cons_zero, List.set_cons_succ]
                    refine r_val (v := ?qv135) (by kernel_rfl) (fun W hW => ?qh135) ?qr135
                    case qh135 =>
                      go_light
                      go_simp
                      rfl
                    simp only [Act.put, List.setIfInBounds_toArray, List.set_cons_zero, List.set_cons_succ]
                    refine r_val (v := ?qv136) (by kernel_rfl) (fun W hW => ?qh136) ?qr136
                    case qh136 =>
                      go_light
                      go_simp
                      rfl
                    simp only [Act.put, List.setIfInBounds_toArray, List.set_cons_zero, List.set_cons_succ]
                    refine r_val (v := ?qv137) (by kernel_rfl) (fun W hW => ?qh137) ?qr137
                    case qh137 =>
                      go_light
                      go_simp
                      rfl
                    simp only [Act.put, List.setIfInBounds_toArray, List.set_cons_zero, List.set_cons_succ]
                    refine r_val (v := ?qv138) (by kernel_rfl) (fun W hW => ?qh138) ?qr138
                    case qh138 =>
                      go_light
                      go_simp
                      rfl
                    simp only [Act.put, List.setIfInBounds_toArray, List.set_cons_zero, List.set_cons_succ]
                    refine r_val (v := ?qv139) (by kernel_rfl) (fun W hW => ?qh139) ?qr139
                    case qh139 =>
                      go_light
                      go_simp
                      rfl
                    simp only [Act.put, List.setIfInBounds_toArray, List.set_cons_zero, List.set_cons_succ]
                    refine r_val (v := ?qv140) (by kernel_rfl) (fun W hW => ?qh140) ?qr140
                    case qh140 =>
                      have q0 := (Below.cell hW (p := ⟨R, 0, none⟩) hzR).trans c0
                      go_light
                      go_simp
                      rfl
                    simp only [Act.put, List.setIfInBounds_toArray, List.set_cons_zero, List.set_cons_succ]
                    refine r_val (v := ?qv141) (by kernel_rfl) (fun W hW => ?qh141) ?qr141
                    case qh141 =>
                      go_light
                      go_simp
                      rfl
                    simp only [Act.put, List.setIfInBounds_toArray, List.set_cons_zero, List.set_cons_succ]
                    refine r_val (v := ?qv142) (by kernel_rfl) (fun W hW => ?qh142) ?qr142
                    case qh142 =>
                      go_light
                      go_simp
                      rfl
                    simp only [Act.put, List.setIfInBounds_toArray, List.set_cons_zero, List.set_cons_succ]
                    refine r_val (v := ?qv143) (by kernel_rfl) (fun W hW => ?qh143) ?qr143
                    case qh143 =>
                      go_light
                      go_simp
                      rfl
                    simp only [Act.put, List.setIfInBounds_toArray, List.set_cons_zero, List.set_cons_succ]
                    refine r_val (v := ?qv144) (by kernel_rfl) (fun W hW => ?qh144) ?qr144
                    case qh144 =>
                      have q1 := (Below.cell hW (p := ⟨R, 1, none⟩) hzR).trans c1
                      go_light
                      go_simp
                      rfl
                    simp only [Act.put, List.setIfInBounds_toArray, List.set_cons_zero, List.set_cons_succ]
                    refine r_val (v := ?qv145) (by kernel_rfl) (fun W hW => ?qh145) ?qr145
                    case qh145 =>
                      go_light
                      go_simp
                      rfl
                    simp only [Act.put, List.setIfInBounds_toArray, List.set_cons_zero, List.set_cons_succ]
                    refine r_val (v := ?qv146) (by kernel_rfl) (fun W hW => ?qh146) ?qr146
                    case qh146 =>
                      go_light
                      go_simp
                      rfl
                    simp only [Act.put, List.setIfInBounds_toArray, List.set_cons_zero, List.set_cons_succ]
                    refine r_val (v := ?qv147) (by kernel_rfl) (fun W hW => ?qh147) ?qr147
                    case qh147 =>
                      go_light
                      go_simp
                      rfl
                    simp only [Act.put, List.setIfInBounds_toArray, List.set_cons_zero, List.set_cons_succ]
                    refine r_val (v := ?qv148) (by kernel_rfl) (fun W hW => ?qh148) ?qr148
                    case qh148 =>
                      go_light
                      go_simp
                      rfl
                    simp only [Act.put, List.setIfInBounds_toArray, List.set_cons_zero, List.set_cons_succ]
                    refine r_val (v := ?qv149) (by kernel_rfl) (fun W hW => ?qh149) ?qr149
                    case qh149 =>
                      go_light
                      go_simp
                      rfl
                    simp only [Act.put, List.setIfInBounds_toArray, List.set_cons_zero, List.set_cons_succ]
                    refine r_val (v := ?qv150) (by kernel_rfl) (fun W hW => ?qh150) ?qr150
                    case qh150 =>
                      go_light
                      go_simp
                      rfl
                    simp only [Act.put, List.setIfInBounds_toArray, List.set_cons_zero, List.set_cons_succ]
                    refine r_val (v := ?qv151) (by kernel_rfl) (fun W hW => ?qh151) ?qr151
                    case qh151 =>
                      go_light
                      go_simp
                      rfl
                    simp only [Act.put, List.setIfInBounds_toArray, List.set_cons_zero, List.set_cons_succ]
                    refine r_val (v := ?qv152) (by kernel_rfl) (fun W hW => ?qh152) ?qr152
                    case qh152 =>
                      go_light
                      go_simp
                      rfl
                    simp only [Act.put, List.setIfInBounds_toArray, List.set_cons_zero, List.set_cons_succ]
                    refine r_val (v := ?qv153) (by kernel_rfl) (fun W hW => ?qh153) ?qr153
                    case qh153 =>
                      go_light
                      go_simp
                      rfl
                    simp only [Act.put, List.setIfInBounds_toArray, List.set_cons_zero, List.set_cons_succ]
                    refine r_val (v := ?qv154) (by kernel_rfl) (fun W hW => ?qh154) ?qr154
                    case qh154 =>
                      have q1 := (Below.cell hW (p := ⟨R, 1, none⟩) hzR).trans c1
                      go_light
                      go_simp
                      rfl
                    simp only [Act.put, List.setIfInBounds_toArray, List.set_cons_zero, List.set_cons_succ]
                    refine r_val (v := ?qv155) (by kernel_rfl) (fun W hW => ?qh155) ?qr155
                    case qh155 =>
                      go_light
                      go_simp
                      rfl
                    simp only [Act.put, List.setIfInBounds_toArray, List.set_cons_zero, List.set_cons_succ]
                    refine r_call (v := .bool true) (f := ?qf156) (args := ?qa156) (by kernel_rfl) (fun W hW => ?qh156) (fun W hW => ?qc156) ?qr156
                    case qh156 =>
                      go_light
                      go_simp
                      constructor
                      · rfl
                      · rfl
                    case qc156 => exact (HV.out W hW).mono (fun e w' h => ⟨h.1, Gr.trans hW h.2⟩)
                    simp only [Act.put, List.setIfInBounds_toArray, List.set_cons_zero, List.set_cons_succ]
                    refine r_val (v := ?qv157) (by kernel_rfl) (fun W hW => ?qh157) ?qr157
                    case qh157 =>
                      go_light
                      go_simp
                      rfl
                    simp only [Act.put, List.setIfInBounds_toArray, List.set_cons_zero, List.set_cons_succ]
                    refine r_val (v := ?qv158) (by kernel_rfl) (fun W hW => ?qh158) ?qr158
                    case qh158 =>
                      go_light
                      go_simp
                      rfl
                    simp only [Act.put, List.setIfInBounds_toArray, List.set_cons_zero, List.set_cons_succ]
                    refine r_nil ?_
                    intro w7 hw7
                    go_wp2_with (fail)
                    go_meet
                    case rel => exact ⟨by rw [HR.out]; rfl, hw7⟩
          · simp only [cond_true] at hXe
            subst hXe
            obtain ⟨cn, hnm⟩ := HF.out.2.2 rfl
            have Hnm := Lib.hid hnm
            refine region_R (by kernel_rfl) (by kernel_rfl) ?_
            refine r_val (v := .agg (bsA (X))) (by kernel_rfl) (fun W hW => ?qh159) ?qr159
            case qh159 => exact exec_load_row _ _ rfl gx rfl (SetQ.gr hX6 hW) und_arr rfl (size_bsQ _)
            simp only [Act.put, List.setIfInBounds_toArray, List.set_cons_zero, List.set_cons_succ]
            refine r_val (v := ?qv160) (by kernel_rfl) (fun W hW => ?qh160) ?qr160
            case qh160 =>
              go_light
              go_simp
              rfl
            simp only [Act.put, List.setIfInBounds_toArray, List.set_cons_zero, List.set_cons_succ]
            refine r_val (v := ?qv161) (by kernel_rfl) (fun W hW => ?qh161) ?qr161
            case qh161 =>
              have hq := eqn_some Hnm.out
              go_light
              go_simp
              rfl
            simp only [Act.put, List.setIfInBounds_toArray, List.set_cons_zero, List.set_cons_succ]
            refine r_val (v := ?qv162) (by kernel_rfl) (fun W hW => ?qh162) ?qr162
            case qh162 =>
              go_light
              go_simp
              rfl
            simp only [Act.put, List.setIfInBounds_toArray, List.set_cons_zero, List.set_cons_succ]
            refine r_skip (by kernel_rfl) ?_
            simp only [Act.put, List.setIfInBounds_toArray, List.set_cons_zero, List.set_cons_succ]
            refine r_skip (by kernel_rfl) ?_
            simp only [Act.put, List.setIfInBounds_toArray, List.set_cons_zero, List.set_cons_succ]
            refine r_val (v := ?qv163) (by kernel_rfl) (fun W hW => ?qh163) ?qr163
            case qh163 =>
              go_light
              go_simp
              rfl
            simp only [Act.put, List.setIfInBounds_toArray, List.set_cons_zero, List.set_cons_succ]
            refine r_val (v := ?qv164) (by kernel_rfl) (fun W hW => ?qh164) ?qr164
            case qh164 =>
              go_light
              go_simp
              rfl
            simp only [Act.put, List.setIfInBounds_toArray, List.set_cons_zero, List.set_cons_succ]
            refine r_skip (by kernel_rfl) ?_
            simp only [Act.put, List.setIfInBounds_toArray, List.set_cons_zero, List.set_cons_succ]
            refine r_skip (by kernel_rfl) ?_
            simp only [Act.put, List.setIfInBounds_toArray, List.set_cons_zero, List.set_cons_succ]
            refine r_skip (by kernel_rfl) ?_
            simp only [Act.put, List.setIfInBounds_toArray, List.set_cons_zero, List.set_cons_succ]
            refine r_skip (by kernel_rfl) ?_
            simp only [Act.put, List.setIfInBounds_toArray, List.set_cons_zero, List.set_cons_succ]
            refine r_skip (by kernel_rfl) ?_
            simp only [Act.put, List.setIfInBounds_toArray, List.set_cons_zero, List.set_cons_succ]
            refine r_skip (by kernel_rfl) ?_
            simp only [Act.put, List.setIfInBounds_toArray, List.set_cons_zero, List.set_cons_succ]
            refine r_skip (by kernel_rfl) ?_
            simp only [Act.put, List.setIfInBounds_toArray, List.set_cons_zero, List.set_cons_succ]
            refine r_skip (by kernel_rfl) ?_
            simp only [Act.put, List.setIfInBounds_toArray, List.set_cons_zero, List.set_cons_succ]
            refine r_skip (by kernel_rfl) ?_
            simp only [Act.put, List.setIfInBounds_toArray, List.set_cons_zero, List.set_cons_succ]
            refine r_skip (by kernel_rfl) ?_
            simp only [Act.put, List.setIfInBounds_toArray, List.set_cons_zero, List.set_cons_succ]
            refine r_skip (by kernel_rfl) ?_
            simp only [Act.put, List.setIfInBounds_toArray, List.set_cons_zero, List.set_cons_succ]
            refine r_val (v := ?qv165) (by kernel_rfl) (fun W hW => ?qh165) ?qr165
            case qh165 =>
              go_light
              go_simp
              rfl
            simp only [Act.put, List.setIfInBounds_toArray, List.set_cons_zero, List.set_cons_succ]
            refine r_val (v := ?qv166) (by kernel_rfl) (fun W hW => ?qh166) ?qr166
            case qh166 =>
              go_light
              go_simp
              rfl
            simp only [Act.put, List.setIfInBounds_toArray, List.set_cons_zero, List.set_cons_succ]
            refine r_skip (by kernel_rfl) ?_
            simp only [Act.put, List.setIfInBounds_toArray, List.set_cons_zero, List.set_cons_succ]
            refine r_skip (by kernel_rfl) ?_
            simp only [Act.put, List.setIfInBounds_toArray, List.set_cons_zero, List.set_cons_succ]
            refine r_skip (by kernel_rfl) ?_
            simp only [Act.put, List.setIfInBounds_toArray, List.set_cons_zero, List.set_cons_succ]
            refine r_skip (by kernel_rfl) ?_
            simp only [Act.put, List.setIfInBounds_toArray, List.set_cons_zero, List.set_cons_succ]
            refine r_skip (by kernel_rfl) ?_
            simp only [Act.put, List.setIfInBounds_toArray, List.set_cons_zero, List.set_cons_succ]
            refine r_skip (by kernel_rfl) ?_
            simp only [Act.put, List.setIfInBounds_toArray, List.set_cons_zero, List.set_cons_succ]
            refine r_skip (by kernel_rfl) ?_
            simp only [Act.put, List.setIfInBounds_toArray, List.set_cons_zero, List.set_cons_succ]
            refine r_skip (by kernel_rfl) ?_
            simp only [Act.put, List.setIfInBounds_toArray, List.set_cons_zero, List.set_cons_succ]
            refine r_skip (by kernel_rfl) ?_
            simp only [Act.put, List.setIfInBounds_toArray, List.set_cons_zero, List.set_cons_succ]
            refine r_skip (by kernel_rfl) ?_
            simp only [Act.put, List.setIfInBounds_toArray, List.set_cons_zero, List.set_cons_succ]
            refine r_skip (by kernel_rfl) ?_
            simp only [Act.put, List.setIfInBounds_toArray, List.set_cons_zero, List.set_cons_succ]
            refine r_val (v := ?qv167) (by kernel_rfl) (fun W hW => ?qh167) ?qr167
            case qh167 =>
              go_light
              go_simp
              rfl
            simp only [Act.put, List.setIfInBounds_toArray, List.set_cons_zero, List.set_cons_succ]
            refine r_val (v := ?qv168) (by kernel_rfl) (fun W hW => ?qh168) ?qr168
            case qh168 =>
              go_light
              go_simp
              rfl
            simp only [Act.put, List.setIfInBounds_toArray, List.set_cons_zero, List.set_cons_succ]
            refine r_skip (by kernel_rfl) ?_
            simp only [Act.put, List.setIfInBounds_toArray, List.set_cons_zero, List.set_cons_succ]
            refine r_skip (by kernel_rfl) ?_
            simp only [Act.put, List.setIfInBounds_toArray, List.set_cons_zero, List.set_cons_succ]
            refine r_skip (by kernel_rfl) ?_
            simp only [Act.put, List.setIfInBounds_toArray, List.set_cons_zero, List.set_cons_succ]
            refine r_skip (by kernel_rfl) ?_
            simp only [Act.put, List.setIfInBounds_toArray, List.set_cons_zero, List.set_cons_succ]
            refine r_skip (by kernel_rfl) ?_
            simp only [Act.put, List.setIfInBounds_toArray, List.set_cons_zero, List.set_cons_succ]
            refine r_skip (by kernel_rfl) ?_
            simp only [Act.put, List.setIfInBounds_toArray, List.set_cons_zero, List.set_cons_succ]
            refine r_skip (by kernel_rfl) ?_
            simp only [Act.put, List.setIfInBounds_toArray, List.set_cons_zero, List.set_cons_succ]
            refine r_skip (by kernel_rfl) ?_
            simp only [Act.put, List.setIfInBounds_toArray, List.set_cons_zero, List.set_cons_succ]
            refine r_val (v := ?qv169) (by kernel_rfl) (fun W hW => ?qh169) ?qr169
            case qh169 =>
              go_light
              go_simp
              rfl
            simp only [Act.put, List.setIfInBounds_toArray, List.set_cons_zero, List.set_cons_succ]
            refine r_nil ?_
            intro w7 hw7
            go_wp2_with (fail)
            go_meet
            case rel => exact ⟨rfl, hw7⟩
        case rest =>
        obtain ⟨rfl, g7⟩ := hcut
        have C7 := C6.gr g7
        have hX7 := hX6.gr g7
        clear C6 hX6 g7
        have hr1l : r1.length = s.size - n2 := by rw [← HF.out.1]; simp
        have Hr1l := Lib.hid hr1l
        clear hr1l
        go_upto_if 88 with (fail)
        go_cut [9, 10] from 30 to 140 (fun p9 p10 wx => ∃ (n3 bv : Nat) (FF : Bs), p9 = .bool true ∧ p10 = .int .u8 bv ∧ bv < 256 ∧ n3 ≤ s.size ∧ n1 < n3 ∧ CQ R w G s n3 d e g A code wx ∧ SetQ wx gx X ∧ Hid (clsS k false (orB G FF) (s.data.toList.drop n3) = T) ∧ Hid (∀ i, i < 256 → FF i = (bif wd then f0 i else (Nat.ble a0 i && Nat.ble i bv))))
        case first =>
          cases hrg : (!wd && rangesS r1)
          · have HE2 : Hid (clsS k false (orB G f0) (s.data.toList.drop n2) = T) := Lib.hid (by rw [HF.out.1]; have t := HE.out; rw [hrg] at t; simpa only [cond_false] using t)
            have HF2 : Hid (∀ i, i < 256 → f0 i = (bif wd then f0 i else (Nat.ble a0 i && Nat.ble i a))) := Lib.hid (fun i hi => by
              cases wd
              · have h1 := Hxa.out.2
                simp only [cond_false] at h1
                rw [HF.out.2.1 rfl, h1]
                simp only [oneB, cond_false]
                rw [Bool.eq_iff_iff]
                simp
                omega
              · rfl)
            clear hrg
            go_wp2_with (fail)
            go_meet
            case rel => exact ⟨n2, a, f0, rfl, rfl, ha2, hn2, hlt2, C7, hX7, HE2, HF2⟩
          · have hwd : wd = false := by cases wd with | false => rfl | true => simp at hrg
            subst hwd
            have hrg2 : rangesS r1 = true := by simpa using hrg
            obtain ⟨y, dd, t2, rfl⟩ := rangesS_two hrg2
            have e3 := HE.out
            rw [hrg] at e3
            simp only [cond_true, List.drop_succ_cons, List.drop_zero] at e3
            have hn23 : n2 + 2 ≤ s.size := by have := Hr1l.out; simp at this; omega
            have hdd : s.data.toList.drop (n2 + 1) = dd :: t2 := by rw [← List.drop_drop, HF.out.1]; rfl
            have hn24 : (n2 : Int) < 4096 := by omega
            have ha0 : a = a0 := by have := Hxa.out.2; simpa using this
            have Hrg := Lib.hid hrg2
            obtain ⟨cc7, hc7⟩ := id C7.r
            obtain ⟨c1, f1⟩ := And.intro hc7.c1 hc7.f1
            have Hdd := Lib.hid (And.intro hdd ha0)
            have HE3 := Lib.hid e3
            clear hc7 hrg hrg2 hdd ha0 e3 HE
            go_upto_region 15 with (fail)
            have C8 := C7.rd (GX.setCell (p := ⟨R, 1, none⟩) (GX.refl R wc) (.inl rfl) (.int .i64 ((n2 : Int) + 1))) (by have t := C7.r.setAt (n2 + 1); rwa [show ((n2 + 1 : Nat) : Int) = (n2 : Int) + 1 by omega] at t) hRw
            have hX8 := hX7.other (p := ⟨R, 1, none⟩) (by show gx ≠ R; exact hzg) (.int .i64 ((n2 : Int) + 1))
            clear C7 hX7 c1 f1
            generalize wc.setCell ⟨R, 1, none⟩ (.int .i64 ((n2 : Int) + 1)) = w8 at C8 hX8 ⊢
            have hzn8 : n2 + 1 ≤ s.size := by omega
            rcases hx2 : sideS (dd :: t2) with ⟨_ | ⟨f2, b0, wd2⟩, r2⟩
            · have e3 := HE3.out
              rw [hx2] at e3
              simp only at e3
              obtain ⟨n', c', f', hn', hn2', HI⟩ := item_none C8.r hs hzn8 (by rw [Hdd.out.1]; exact hx2)
              have HI' := Lib.hid (fun (W : World) (hW : RfW W R s (n2 + 1) d e g A code) => HI hW)
              have HE4 := Lib.hid e3
              clear e3 hx2 HI HE3
              go_upto_region 17 with (go_at_call 55; refine (HI'.out _ C8.r).mono ?_; rintro x w9 ⟨rfl, h9, x9⟩; have C9 := C8.rd x9 h9 hRw)
              obtain ⟨cx, cb, ca, cr⟩ := id C9
              go_wp2_with (first
                | (refine wpList_load_row rfl 72 (.tmp 4) rfl ((w.heap.size + 1)) rfl _ (bsA (G)) (0, 0) _ ca und_arr rfl (size_bsQ _) ?_)
                | (refine wpList_store_row rfl 72 (.tmp 2) (.tmp 109) rfl (w.heap.size) (bsA (G)) rfl rfl _ _ cb (size_bsQ _) (by simp only [bsA_size]) (bsA_one _) ?_))
              refine bodyPost_ret (v := .tuple #[.agg (bsA G), .bool false]) (res_arr2 _ 2 3 (by kernel_rfl) _ _ w.heap.size _ _ rfl rfl (SetQ.row cb)) rfl ?_
              rw [← HE4.out]
              exact ⟨G, n', rfl, cr.row' (by omega) (fun e => by have := hAw _ e; omega), cx.setRow (.inr (Nat.le_refl _)) _, hn2', fun F hF => by cases hF⟩
            · have e3 := HE3.out
              rw [hx2] at e3
              simp only at e3
              obtain ⟨n3, hd3, hlt3, hn3, hb256, hf2, hnm2, HI⟩ := item_some C8.r hs hzn8 (by rw [Hdd.out.1]; exact hx2)
              have hw2 : wd2 = false := range_wd Hrg.out hx2
              rw [hw2] at HI
              simp only [cond_false] at HI
              have HI' := Lib.hid (fun (W : World) (hW : RfW W R s (n2 + 1) d e g A code) => HI hW)
              by_cases hba : b0 < a0
              · rw [blt_yes hba] at e3
                simp only [cond_true] at e3
                have hbI : (b0 : Int) < (a : Int) := by have := Hdd.out.2; omega
                have HE4 := Lib.hid e3
                clear e3 hx2 HI HE3 hba hf2 hnm2 hd3
                go_upto_region 17 with (go_at_call 55; refine (HI'.out _ C8.r).mono ?_; rintro x w9 ⟨rfl, h9, x9⟩; have C9 := C8.rd x9 h9 hRw)
                obtain ⟨cx, cb, ca, cr⟩ := id C9
                go_wp2_with (first
                  | (refine wpList_load_row rfl 72 (.tmp 4) rfl ((w.heap.size + 1)) rfl _ (bsA (G)) (0, 0) _ ca und_arr rfl (size_bsQ _) ?_)
                  | (refine wpList_store_row rfl 72 (.tmp 2) (.tmp 109) rfl (w.heap.size) (bsA (G)) rfl rfl _ _ cb (size_bsQ _) (by simp only [bsA_size]) (bsA_one _) ?_))
                refine bodyPost_ret (v := .tuple #[.agg (bsA G), .bool false]) (res_arr2 _ 2 3 (by kernel_rfl) _ _ w.heap.size _ _ rfl rfl (SetQ.row cb)) rfl ?_
                rw [← HE4.out]
                exact ⟨G, n3, rfl, cr.row' (by omega) (fun e => by have := hAw _ e; omega), cx.setRow (.inr (Nat.le_refl _)) _, by omega, fun F hF => by cases hF⟩
              · rw [blt_no hba] at e3
                simp only [cond_false] at e3
                have hbI : ¬ (b0 : Int) < (a : Int) := by have := Hdd.out.2; omega
                have HE4 : Hid (clsS k false (orB G (orB f0 (runB a0 b0))) (s.data.toList.drop n3) = T) := Lib.hid (by rw [hd3]; exact e3)
                have HF2 : Hid (∀ i, i < 256 → (orB f0 (runB a0 b0)) i = (bif false then f0 i else (Nat.ble a0 i && Nat.ble i b0))) := Lib.hid (fun i hi => by
                  rw [HF.out.2.1 rfl]
                  simp only [oneB, orB, runB, cond_false]
                  rw [Bool.eq_iff_iff]
                  simp
                  omega)
                have hlt4 : n1 < n3 := by omega
                clear e3 hx2 HI HE3 hba hf2 hnm2 hd3
                go_wp2_with (go_at_call 55; refine (HI'.out _ C8.r).mono ?_; rintro x w9 ⟨rfl, h9, x9⟩; have C9 := C8.rd x9 h9 hRw; have hX9 := hX8.gx x9 hzg)
                go_meet
                case rel => exact ⟨n3, b0, orB f0 (runB a0 b0), rfl, rfl, hb256, hn3, hlt4, C9, hX9, HE4, HF2⟩
        case rest =>
        obtain ⟨n3, bv, FF, rfl, rfl, hbv, hn3, hlt3, C, hXc, HE3, HFF⟩ := hcut
        clear C7 hX7
        have hXe := Hxa.out.1
        have HXe := Lib.hid hXe
        clear hXe
        go_wp2_with (fail)
        go_loopw [11] (fun i wr => ∃ j : Nat, j ≤ 256 ∧ i = .int .i64 j ∧ CQ R w (fun q => bif decide (q < j) then (G q || FF q) else G q) s n3 d e g A code wr ∧ SetQ wr gx X) (fun i _ => 256 - (intOf i).toNat)
        case atStart => exact ⟨0, by omega, rfl, ⟨C.x, C.b, C.a.eq fun i _ => by simp, C.r⟩, hXc⟩
        case round =>
          clear C hXc
          obtain ⟨j, hj, rfl, C, hXw⟩ := hrel
          by_cases hlt : j < 256
          · have h3 : (j : Int) < 256 := by omega
            have hcell := C.a.cell hlt
            rw [show (bif decide (j < j) then (G j || FF j) else G j) = G j by simp] at hcell
            have hf := C.a.free j
            have hxc := hXw.cell hlt
            have HC3 := Lib.hid C
            have HXw := Lib.hid hXw
            have hst : ∀ v, (G j || FF j) = v → ∀ q, q < 256 → (bif q == j then v else (bif decide (q < j) then (G q || FF q) else G q)) = (bif decide (q < j + 1) then (G q || FF q) else G q) := fun v hv q _ => by
              by_cases hq : q = j
              · subst hq; simp [hv]
              · have e1 : (q == j) = false := by simpa using hq
                have e2 : decide (q < j + 1) = decide (q < j) := by rw [decide_eq_decide]; omega
                simp only [e1, cond_false, e2]
            have Hst := Lib.hid hst
            have hFj := HFF.out j hlt
            have HFj := Lib.hid hFj
            clear hst C hFj
            have hne : gx ≠ w.heap.size + 1 := by omega
            cases hb : G j
            case true =>
              rw [hb] at hcell Hst
              clear hb hXw hxc
              go_wp2_with (fail)
              go_roundw
              case rel => exact ⟨j + 1, by omega, by go_num, HC3.out.cell hRw j _ hAw (Hst.out _ (by simp)), HXw.out.other (p := ⟨w.heap.size + 1, j, none⟩) hne _⟩
              case measure => simp [intOf]; omega
            case false =>
            rw [hb] at hcell Hst
            clear hb
            cases hxj : X j
            case true =>
              have hFt : FF j = true := by
                have h1 := HXe.out
                rw [h1] at hxj
                rw [HFj.out]
                cases wd
                · simp [noB] at hxj
                · simpa using hxj
              rw [hxj] at hxc
              have HFt := Lib.hid hFt
              clear hxj hXw hFt
              go_wp2_with (fail)
              go_roundw
              case rel => exact ⟨j + 1, by omega, by go_num, HC3.out.cell hRw j _ hAw (Hst.out _ (by rw [HFt.out]; rfl)), HXw.out.other (p := ⟨w.heap.size + 1, j, none⟩) hne _⟩
              case measure => simp [intOf]; omega
            case false =>
            rw [hxj] at hxc
            cases wd
            case true =>
              obtain ⟨cn, hnm⟩ := HF.out.2.2 rfl
              have hXf : X = f0 := HXe.out
              have hq := fun W => eqn_some hnm W
              rw [← hXf] at hq
              have HFf := Lib.hid (show FF j = false by rw [HFj.out, ← hXf]; exact hxj)
              have HXf := Lib.hid hXf
              clear hxj hnm hXf
              go_wp2_with (fail)
              refine wp_load_rowX rfl gx rfl hXw und_arr rfl (size_bsQ _) ?_
              go_wp2_with (fail)
              go_roundw
              case rel => exact ⟨j + 1, by omega, by go_num, HC3.out.cell hRw j _ hAw (Hst.out _ (by rw [HFf.out]; rfl)), HXw.out.other (p := ⟨w.heap.size + 1, j, none⟩) hne _⟩
              case measure => simp [intOf]; omega
            case false =>
              have hXf : X = noB := HXe.out
              have ha0 : a = a0 := Hxa.out.2
              have hq : ∀ W, (Op.equalIn 10000 72 (.agg (bsA X)) (.agg (bsA noB))).run Try.prog W = .ok true W := fun W => by rw [hXf]; exact eqn_none W
              have HXf := Lib.hid hXf
              have Ha0 := Lib.hid ha0
              have hF2 : FF j = (Nat.ble a0 j && Nat.ble j bv) := HFj.out
              have HF2 := Lib.hid hF2
              clear hxj hXf ha0 hF2
              by_cases h1 : (a : Int) ≤ (j : Int)
              · by_cases h2 : (j : Int) ≤ (bv : Int)
                · have HFf := Lib.hid (show FF j = true by rw [HF2.out, ← Ha0.out]; simp only [Bool.and_eq_true, Nat.ble_eq]; omega)
                  go_wp2_with (fail)
                  refine wp_load_rowX rfl gx rfl hXw und_arr rfl (size_bsQ _) ?_
                  go_wp2_with (fail)
                  go_roundw
                  case rel => exact ⟨j + 1, by omega, by go_num, HC3.out.cell hRw j _ hAw (Hst.out _ (by rw [HFf.out]; rfl)), HXw.out.other (p := ⟨w.heap.size + 1, j, none⟩) hne _⟩
                  case measure => simp [intOf]; omega
                · have HFf := Lib.hid (show FF j = false by rw [HF2.out, ← Ha0.out, Bool.eq_false_iff]; intro hh; simp only [Bool.and_eq_true, Nat.ble_eq] at hh; omega)
                  go_wp2_with (fail)
                  refine wp_load_rowX rfl gx rfl hXw und_arr rfl (size_bsQ _) ?_
                  go_wp2_with (fail)
                  go_roundw
                  case rel => exact ⟨j + 1, by omega, by go_num, HC3.out.cell hRw j _ hAw (Hst.out _ (by rw [HFf.out]; rfl)), HXw.out.other (p := ⟨w.heap.size + 1, j, none⟩) hne _⟩
                  case measure => simp [intOf]; omega
              · have HFf := Lib.hid (show FF j = false by rw [HF2.out, ← Ha0.out, Bool.eq_false_iff]; intro hh; simp only [Bool.and_eq_true, Nat.ble_eq] at hh; omega)
                go_wp2_with (fail)
                refine wp_load_rowX rfl gx rfl hXw und_arr rfl (size_bsQ _) ?_
                go_wp2_with (fail)
                go_roundw
                case rel => exact ⟨j + 1, by omega, by go_num, HC3.out.cell hRw j _ hAw (Hst.out _ (by rw [HFf.out]; rfl)), HXw.out.other (p := ⟨w.heap.size + 1, j, none⟩) hne _⟩
                case measure => simp [intOf]; omega
          · have hj' : j = 256 := by omega
            subst hj'
            have C10 : CQ R w (orB G FF) s n3 d e g A code wr := ⟨C.x, C.b, C.a.eq fun i hi => by simp [hi, orB], C.r⟩
            have Hmn3 := Lib.hid C10.r.n
            have hk3 : (s.data.toList.drop n3).length < k := by rw [List.length_drop]; simp; omega
            clear C
            go_wp2_with (fail)
            go_roundw
            case rel =>
              exact ⟨false, orB G FF, n3, k, rfl, hn3, hk3, C10, HE3⟩
            case measure => rw [Hmn.out, Hmn3.out]; omega
end Go.Proofs.Ytpcmdijgepbilaa
