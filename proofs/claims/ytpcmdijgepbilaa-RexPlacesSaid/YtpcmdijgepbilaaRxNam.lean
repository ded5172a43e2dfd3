/- The contract of rex.named: one of the six sets of bytes. -/
import Derived.Test.YtpcmdijgepbilaaRxSet
namespace Go.Proofs.Ytpcmdijgepbilaa
open Go.RowKit
set_option linter.unusedVariables false
set_option linter.unusedSimpArgs false

theorem res_set2 (fn : Func) (p q : Tmp) (h : fn.results = #[.cell p 73, .tmp q]) (tmps : Array Value) (w : World) (g : Nat) (f : Bs) (b : Value) (hp : tmps.getD p undef = .pointer (some ⟨g, 0, none⟩)) (hq : tmps.getD q undef = b) (hs : SetAt w g f) :
    (results fn tmps).run Try.prog w = .ok (.tuple #[.agg (bsA f), b]) w := by
  have hp' : tmps[p]?.getD undef = .pointer (some ⟨g, 0, none⟩) := by simpa using hp
  have hq' : tmps[q]?.getD undef = b := by simpa using hq
  simp [results, h, hp', hq', asAddr, run_loadVar_row w g _ 73 (bsA f) (0, 0) _ hs und_set rfl (size_bsA _)]
def nmB (c : Nat) : Bs := (namedB c).getD noB
set_option maxRecDepth 100000 in
set_option maxHeartbeats 3200000 in
theorem named_any (c : Nat) (w : World) (hc : c < 256) :
    Calls Try.prog 49 #[.int .u8 c] w fun e w' => e = .returned (.tuple #[.agg (bsA (nmB c)), .bool (isNamed c)]) ∧ Gr w w' := by
  obtain ⟨hz, hsz⟩ := zero_of_info info_set
  have g0 : Gr w ((w.alloc (Obj.cells (bsA noB) 73)).alloc (Obj.cells (bsA noB) 73)) := (by repeat (first | exact Gr.refl _ | refine Gr.alloc ?_ _ | refine Gr.drew ?_ | refine Gr.setCell ?_ (by first | (simp; done) | (simp; omega) | omega) _ | refine Gr.trans ?_ (by assumption)))
  have r0 : SetAt ((w.alloc (Obj.cells (bsA noB) 73)).alloc (Obj.cells (bsA noB) 73)) w.heap.size noB := (SetAt.new w noB).gr (Gr.alloc (Gr.refl _) _)
  have s0 : SetAt ((w.alloc (Obj.cells (bsA noB) 73)).alloc (Obj.cells (bsA noB) 73)) (w.heap.size + 1) noB := by
    have := SetAt.new (w.alloc (Obj.cells (bsA noB) 73)) noB
    simpa using this
  by_cases h100 : c = 100
  case pos =>
    subst h100
    go_enter Try.func49, Try.ntmps49
    go_upto_region 2 with (fail)
    generalize ((w.alloc (Obj.cells (bsA noB) 73)).alloc (Obj.cells (bsA noB) 73)) = w0 at g0 r0 s0 ⊢
    clear hz hsz
    go_wp2_with fail
    refine (adds_any (w.heap.size + 1) _ 48 57 _ (by decide) (by decide) s0).mono ?_
    rintro e w1 ⟨rfl, hg1, s1⟩
    have g1 := GX.gr g0 hg1 (Nat.le_succ _)
    have r1 := r0.gx hg1 (by simp)
    clear hg1 s0 g0 r0
    have sk : SetAt w1 (w.heap.size + 1) digB := s1.eq (fun i _ => by simp only [orB, noB, digB, wordB, spB, Bool.false_or])
    clear s1
    go_wp2_with (first
        | (refine wpList_load_row rfl 73 (.tmp 4) rfl (w.heap.size + 1) rfl _ (bsA digB) (0, 0) _ sk und_set rfl (size_bsA _) ?_)
        | (refine wpList_store_row rfl 73 (.tmp 2) (.tmp 27) rfl (w.heap.size) (bsA digB) rfl rfl _ _ r1 (size_bsA _) (by simp only [bsA_size]) (bsA_one _) ?_))
    exact bodyPost_ret (v := .tuple #[.agg (bsA digB), .bool true]) (res_set2 _ 2 3 (by kernel_rfl) _ _ w.heap.size _ _ rfl rfl (SetAt.row r1)) rfl ⟨rfl, Gr.setRow g1 (Nat.le_refl _) _⟩
  by_cases h68 : c = 68
  case pos =>
    subst h68
    go_enter Try.func49, Try.ntmps49
    go_upto_region 2 with (fail)
    generalize ((w.alloc (Obj.cells (bsA noB) 73)).alloc (Obj.cells (bsA noB) 73)) = w0 at g0 r0 s0 ⊢
    clear hz hsz
    go_wp2_with fail
    refine (adds_any (w.heap.size + 1) _ 48 57 _ (by decide) (by decide) s0).mono ?_
    rintro e w1 ⟨rfl, hg1, s1⟩
    have g1 := GX.gr g0 hg1 (Nat.le_succ _)
    have r1 := r0.gx hg1 (by simp)
    clear hg1 s0 g0 r0
    have sk : SetAt w1 (w.heap.size + 1) digB := s1.eq (fun i _ => by simp only [orB, noB, digB, wordB, spB, Bool.false_or])
    clear s1
    go_wp2_with (first
        | (refine wpList_load_row rfl 73 (.tmp 4) rfl (w.heap.size + 1) rfl _ (bsA digB) (0, 0) _ sk und_set rfl (size_bsA _) ?_)
        | (go_at_call 36; refine (not_any _ _).mono ?_; rintro e wn ⟨rfl, hn⟩; have gk := Gr.trans g1 hn; have rk := r1.gr hn; have sn := sk.gr hn; have SN := SetAt.row (f := notB digB) sn; have RN : SetAt (wn.setRow (w.heap.size + 1) (bsA (notB digB))) w.heap.size noB := (setRow_other _ _ _ _ (by simp)).trans rk; have GN := Gr.setRow gk (g := w.heap.size + 1) (Nat.le_succ _) (bsA (notB digB)); clear gk rk g1 r1 hn sk)
        | (refine wpList_store_row rfl 73 (.tmp 4) (.tmp 26) rfl (w.heap.size + 1) (bsA (notB digB)) rfl rfl _ _ sn (size_bsA _) (by simp only [bsA_size]) (bsA_one _) ?_)
        | (refine wpList_load_row rfl 73 (.tmp 4) rfl (w.heap.size + 1) rfl _ (bsA (notB digB)) (0, 0) _ SN und_set rfl (size_bsA _) ?_)
        | (refine wpList_store_row rfl 73 (.tmp 2) (.tmp 27) rfl (w.heap.size) (bsA (notB digB)) rfl rfl _ _ RN (size_bsA _) (by simp only [bsA_size]) (bsA_one _) ?_))
    exact bodyPost_ret (v := .tuple #[.agg (bsA (notB digB)), .bool true]) (res_set2 _ 2 3 (by kernel_rfl) _ _ w.heap.size _ _ rfl rfl (SetAt.row RN)) rfl ⟨rfl, Gr.setRow GN (Nat.le_refl _) _⟩
  by_cases h119 : c = 119
  case pos =>
    subst h119
    go_enter Try.func49, Try.ntmps49
    go_upto_region 2 with (fail)
    generalize ((w.alloc (Obj.cells (bsA noB) 73)).alloc (Obj.cells (bsA noB) 73)) = w0 at g0 r0 s0 ⊢
    clear hz hsz
    go_wp2_with fail
    refine (adds_any (w.heap.size + 1) _ 48 57 _ (by decide) (by decide) s0).mono ?_
    rintro e w1 ⟨rfl, hg1, s1⟩
    have g1 := GX.gr g0 hg1 (Nat.le_succ _)
    have r1 := r0.gx hg1 (by simp)
    clear hg1 s0 g0 r0
    go_wp2_with fail
    refine (adds_any (w.heap.size + 1) _ 97 122 _ (by decide) (by decide) s1).mono ?_
    rintro e w2 ⟨rfl, hg2, s2⟩
    have g2 := GX.gr g1 hg2 (Nat.le_succ _)
    have r2 := r1.gx hg2 (by simp)
    clear hg2 s1 g1 r1
    go_wp2_with fail
    refine (adds_any (w.heap.size + 1) _ 65 90 _ (by decide) (by decide) s2).mono ?_
    rintro e w3 ⟨rfl, hg3, s3⟩
    have g3 := GX.gr g2 hg3 (Nat.le_succ _)
    have r3 := r2.gx hg3 (by simp)
    clear hg3 s2 g2 r2
    go_wp2_with fail
    refine (adds_any (w.heap.size + 1) _ 95 95 _ (by decide) (by decide) s3).mono ?_
    rintro e w4 ⟨rfl, hg4, s4⟩
    have g4 := GX.gr g3 hg4 (Nat.le_succ _)
    have r4 := r3.gx hg4 (by simp)
    clear hg4 s3 g3 r3
    have sk : SetAt w4 (w.heap.size + 1) wordB := s4.eq (fun i _ => by simp only [orB, noB, digB, wordB, spB, Bool.false_or])
    clear s4
    go_wp2_with (first
        | (refine wpList_load_row rfl 73 (.tmp 4) rfl (w.heap.size + 1) rfl _ (bsA wordB) (0, 0) _ sk und_set rfl (size_bsA _) ?_)
        | (refine wpList_store_row rfl 73 (.tmp 2) (.tmp 27) rfl (w.heap.size) (bsA wordB) rfl rfl _ _ r4 (size_bsA _) (by simp only [bsA_size]) (bsA_one _) ?_))
    exact bodyPost_ret (v := .tuple #[.agg (bsA wordB), .bool true]) (res_set2 _ 2 3 (by kernel_rfl) _ _ w.heap.size _ _ rfl rfl (SetAt.row r4)) rfl ⟨rfl, Gr.setRow g4 (Nat.le_refl _) _⟩
  by_cases h87 : c = 87
  case pos =>
    subst h87
    go_enter Try.func49, Try.ntmps49
    go_upto_region 2 with (fail)
    generalize ((w.alloc (Obj.cells (bsA noB) 73)).alloc (Obj.cells (bsA noB) 73)) = w0 at g0 r0 s0 ⊢
    clear hz hsz
    go_wp2_with fail
    refine (adds_any (w.heap.size + 1) _ 48 57 _ (by decide) (by decide) s0).mono ?_
    rintro e w1 ⟨rfl, hg1, s1⟩
    have g1 := GX.gr g0 hg1 (Nat.le_succ _)
    have r1 := r0.gx hg1 (by simp)
    clear hg1 s0 g0 r0
    go_wp2_with fail
    refine (adds_any (w.heap.size + 1) _ 97 122 _ (by decide) (by decide) s1).mono ?_
    rintro e w2 ⟨rfl, hg2, s2⟩
    have g2 := GX.gr g1 hg2 (Nat.le_succ _)
    have r2 := r1.gx hg2 (by simp)
    clear hg2 s1 g1 r1
    go_wp2_with fail
    refine (adds_any (w.heap.size + 1) _ 65 90 _ (by decide) (by decide) s2).mono ?_
    rintro e w3 ⟨rfl, hg3, s3⟩
    have g3 := GX.gr g2 hg3 (Nat.le_succ _)
    have r3 := r2.gx hg3 (by simp)
    clear hg3 s2 g2 r2
    go_wp2_with fail
    refine (adds_any (w.heap.size + 1) _ 95 95 _ (by decide) (by decide) s3).mono ?_
    rintro e w4 ⟨rfl, hg4, s4⟩
    have g4 := GX.gr g3 hg4 (Nat.le_succ _)
    have r4 := r3.gx hg4 (by simp)
    clear hg4 s3 g3 r3
    have sk : SetAt w4 (w.heap.size + 1) wordB := s4.eq (fun i _ => by simp only [orB, noB, digB, wordB, spB, Bool.false_or])
    clear s4
    go_wp2_with (first
        | (refine wpList_load_row rfl 73 (.tmp 4) rfl (w.heap.size + 1) rfl _ (bsA wordB) (0, 0) _ sk und_set rfl (size_bsA _) ?_)
        | (go_at_call 36; refine (not_any _ _).mono ?_; rintro e wn ⟨rfl, hn⟩; have gk := Gr.trans g4 hn; have rk := r4.gr hn; have sn := sk.gr hn; have SN := SetAt.row (f := notB wordB) sn; have RN : SetAt (wn.setRow (w.heap.size + 1) (bsA (notB wordB))) w.heap.size noB := (setRow_other _ _ _ _ (by simp)).trans rk; have GN := Gr.setRow gk (g := w.heap.size + 1) (Nat.le_succ _) (bsA (notB wordB)); clear gk rk g4 r4 hn sk)
        | (refine wpList_store_row rfl 73 (.tmp 4) (.tmp 26) rfl (w.heap.size + 1) (bsA (notB wordB)) rfl rfl _ _ sn (size_bsA _) (by simp only [bsA_size]) (bsA_one _) ?_)
        | (refine wpList_load_row rfl 73 (.tmp 4) rfl (w.heap.size + 1) rfl _ (bsA (notB wordB)) (0, 0) _ SN und_set rfl (size_bsA _) ?_)
        | (refine wpList_store_row rfl 73 (.tmp 2) (.tmp 27) rfl (w.heap.size) (bsA (notB wordB)) rfl rfl _ _ RN (size_bsA _) (by simp only [bsA_size]) (bsA_one _) ?_))
    exact bodyPost_ret (v := .tuple #[.agg (bsA (notB wordB)), .bool true]) (res_set2 _ 2 3 (by kernel_rfl) _ _ w.heap.size _ _ rfl rfl (SetAt.row RN)) rfl ⟨rfl, Gr.setRow GN (Nat.le_refl _) _⟩
  by_cases h115 : c = 115
  case pos =>
    subst h115
    go_enter Try.func49, Try.ntmps49
    go_upto_region 2 with (fail)
    generalize ((w.alloc (Obj.cells (bsA noB) 73)).alloc (Obj.cells (bsA noB) 73)) = w0 at g0 r0 s0 ⊢
    clear hz hsz
    go_wp2_with fail
    refine (adds_any (w.heap.size + 1) _ 9 13 _ (by decide) (by decide) s0).mono ?_
    rintro e w1 ⟨rfl, hg1, s1⟩
    have g1 := GX.gr g0 hg1 (Nat.le_succ _)
    have r1 := r0.gx hg1 (by simp)
    clear hg1 s0 g0 r0
    go_wp2_with fail
    refine (adds_any (w.heap.size + 1) _ 32 32 _ (by decide) (by decide) s1).mono ?_
    rintro e w2 ⟨rfl, hg2, s2⟩
    have g2 := GX.gr g1 hg2 (Nat.le_succ _)
    have r2 := r1.gx hg2 (by simp)
    clear hg2 s1 g1 r1
    have sk : SetAt w2 (w.heap.size + 1) spB := s2.eq (fun i _ => by simp only [orB, noB, digB, wordB, spB, Bool.false_or])
    clear s2
    go_wp2_with (first
        | (refine wpList_load_row rfl 73 (.tmp 4) rfl (w.heap.size + 1) rfl _ (bsA spB) (0, 0) _ sk und_set rfl (size_bsA _) ?_)
        | (refine wpList_store_row rfl 73 (.tmp 2) (.tmp 27) rfl (w.heap.size) (bsA spB) rfl rfl _ _ r2 (size_bsA _) (by simp only [bsA_size]) (bsA_one _) ?_))
    exact bodyPost_ret (v := .tuple #[.agg (bsA spB), .bool true]) (res_set2 _ 2 3 (by kernel_rfl) _ _ w.heap.size _ _ rfl rfl (SetAt.row r2)) rfl ⟨rfl, Gr.setRow g2 (Nat.le_refl _) _⟩
  by_cases h83 : c = 83
  case pos =>
    subst h83
    go_enter Try.func49, Try.ntmps49
    go_upto_region 2 with (fail)
    generalize ((w.alloc (Obj.cells (bsA noB) 73)).alloc (Obj.cells (bsA noB) 73)) = w0 at g0 r0 s0 ⊢
    clear hz hsz
    go_wp2_with fail
    refine (adds_any (w.heap.size + 1) _ 9 13 _ (by decide) (by decide) s0).mono ?_
    rintro e w1 ⟨rfl, hg1, s1⟩
    have g1 := GX.gr g0 hg1 (Nat.le_succ _)
    have r1 := r0.gx hg1 (by simp)
    clear hg1 s0 g0 r0
    go_wp2_with fail
    refine (adds_any (w.heap.size + 1) _ 32 32 _ (by decide) (by decide) s1).mono ?_
    rintro e w2 ⟨rfl, hg2, s2⟩
    have g2 := GX.gr g1 hg2 (Nat.le_succ _)
    have r2 := r1.gx hg2 (by simp)
    clear hg2 s1 g1 r1
    have sk : SetAt w2 (w.heap.size + 1) spB := s2.eq (fun i _ => by simp only [orB, noB, digB, wordB, spB, Bool.false_or])
    clear s2
    go_wp2_with (first
        | (refine wpList_load_row rfl 73 (.tmp 4) rfl (w.heap.size + 1) rfl _ (bsA spB) (0, 0) _ sk und_set rfl (size_bsA _) ?_)
        | (go_at_call 36; refine (not_any _ _).mono ?_; rintro e wn ⟨rfl, hn⟩; have gk := Gr.trans g2 hn; have rk := r2.gr hn; have sn := sk.gr hn; have SN := SetAt.row (f := notB spB) sn; have RN : SetAt (wn.setRow (w.heap.size + 1) (bsA (notB spB))) w.heap.size noB := (setRow_other _ _ _ _ (by simp)).trans rk; have GN := Gr.setRow gk (g := w.heap.size + 1) (Nat.le_succ _) (bsA (notB spB)); clear gk rk g2 r2 hn sk)
        | (refine wpList_store_row rfl 73 (.tmp 4) (.tmp 26) rfl (w.heap.size + 1) (bsA (notB spB)) rfl rfl _ _ sn (size_bsA _) (by simp only [bsA_size]) (bsA_one _) ?_)
        | (refine wpList_load_row rfl 73 (.tmp 4) rfl (w.heap.size + 1) rfl _ (bsA (notB spB)) (0, 0) _ SN und_set rfl (size_bsA _) ?_)
        | (refine wpList_store_row rfl 73 (.tmp 2) (.tmp 27) rfl (w.heap.size) (bsA (notB spB)) rfl rfl _ _ RN (size_bsA _) (by simp only [bsA_size]) (bsA_one _) ?_))
    exact bodyPost_ret (v := .tuple #[.agg (bsA (notB spB)), .bool true]) (res_set2 _ 2 3 (by kernel_rfl) _ _ w.heap.size _ _ rfl rfl (SetAt.row RN)) rfl ⟨rfl, Gr.setRow GN (Nat.le_refl _) _⟩
  have q100 : ((c : Int) == 100) = false := beq_eq_false_iff_ne.2 (by omega)
  have q68 : ((c : Int) == 68) = false := beq_eq_false_iff_ne.2 (by omega)
  have q119 : ((c : Int) == 119) = false := beq_eq_false_iff_ne.2 (by omega)
  have q87 : ((c : Int) == 87) = false := beq_eq_false_iff_ne.2 (by omega)
  have q115 : ((c : Int) == 115) = false := beq_eq_false_iff_ne.2 (by omega)
  have q83 : ((c : Int) == 83) = false := beq_eq_false_iff_ne.2 (by omega)
  have e1 : nmB c = noB := by simp [nmB, namedB, beq_eq_false_iff_ne.2 h100, beq_eq_false_iff_ne.2 h68, beq_eq_false_iff_ne.2 h119, beq_eq_false_iff_ne.2 h87, beq_eq_false_iff_ne.2 h115, beq_eq_false_iff_ne.2 h83]
  have e2 : isNamed c = false := by simp [isNamed, namedB, beq_eq_false_iff_ne.2 h100, beq_eq_false_iff_ne.2 h68, beq_eq_false_iff_ne.2 h119, beq_eq_false_iff_ne.2 h87, beq_eq_false_iff_ne.2 h115, beq_eq_false_iff_ne.2 h83]
  rw [e1, e2]
  clear e1 e2 h100 h68 h119 h87 h115 h83
  go_enter Try.func49, Try.ntmps49
  go_upto_region 2 with (fail)
  generalize ((w.alloc (Obj.cells (bsA noB) 73)).alloc (Obj.cells (bsA noB) 73)) = w0 at g0 r0 s0 ⊢
  clear hz hsz
  go_wp2_with (first
        | (refine wpList_load_row rfl 73 (.tmp 4) rfl (w.heap.size + 1) rfl _ (bsA noB) (0, 0) _ s0 und_set rfl (size_bsA _) ?_)
        | (refine wpList_store_row rfl 73 (.tmp 2) (.tmp 6) rfl (w.heap.size) (bsA noB) rfl rfl _ _ r0 (size_bsA _) (by simp only [bsA_size]) (bsA_one _) ?_))
  exact bodyPost_ret (v := .tuple #[.agg (bsA noB), .bool false]) (res_set2 _ 2 3 (by kernel_rfl) _ _ w.heap.size _ _ rfl rfl (SetAt.row r0)) rfl ⟨rfl, Gr.setRow g0 (Nat.le_refl _) _⟩
end Go.Proofs.Ytpcmdijgepbilaa
