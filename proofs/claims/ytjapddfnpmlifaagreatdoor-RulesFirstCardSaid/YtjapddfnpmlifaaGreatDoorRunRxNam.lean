/- The contract of rex.named: one of the six sets of bytes. · The contracts of rex.isWord and of rex's set.pairs: the runs of a set of bytes as a string. -/
import Derived.Test.YtjapddfnpmlifaaGreatDoorRunRxMem
namespace Go.Proofs.YtjapddfnpmlifaaGreatDoor
open Go.RowKit
set_option linter.unusedVariables false
set_option linter.unusedSimpArgs false

theorem res_set2 (fn : Func) (p q : Tmp) (h : fn.results = #[.cell p 219, .tmp q]) (tmps : Array Value) (w : World) (g : Nat) (f : Bs) (b : Value) (hp : tmps.getD p undef = .pointer (some ⟨g, 0, none⟩)) (hq : tmps.getD q undef = b) (hs : SetAt w g f) :
  (results fn tmps).run Tryz.prog w = .ok (.tuple #[.agg (bsA f), b]) w := by
 have hp' : tmps[p]?.getD undef = .pointer (some ⟨g, 0, none⟩) := by simpa using hp
 have hq' : tmps[q]?.getD undef = b := by simpa using hq
 simp [results, h, hp', hq', asAddr, run_loadVar_row w g _ 219 (bsA f) (0, 0) _ hs und_set rfl (size_bsA _)]
def nmB (c : Nat) : Bs := (namedB c).getD noB
set_option maxRecDepth 100000 in
set_option maxHeartbeats 3200000 in
theorem named_any (c : Nat) (w : World) (hc : c < 256) :
  Calls Tryz.prog 166 #[.int .u8 c] w fun e w' => e = .returned (.tuple #[.agg (bsA (nmB c)), .bool (isNamed c)]) ∧ Gr w w' := by
 obtain ⟨hz, hsz⟩ := zero_of_info info_set
 have g0 : Gr w ((w.alloc (Obj.cells (bsA noB) 219)).alloc (Obj.cells (bsA noB) 219)) := (by repeat (first | exact Gr.refl _ | refine Gr.alloc ?_ _ | refine Gr.drew ?_ | refine Gr.setCell ?_ (by first | (simp; done) | (simp; omega) | omega) _ | refine Gr.trans ?_ (by assumption)))
 have r0 : SetAt ((w.alloc (Obj.cells (bsA noB) 219)).alloc (Obj.cells (bsA noB) 219)) w.heap.size noB := (SetAt.new w noB).gr (Gr.alloc (Gr.refl _) _)
 have s0 : SetAt ((w.alloc (Obj.cells (bsA noB) 219)).alloc (Obj.cells (bsA noB) 219)) (w.heap.size + 1) noB := by
  have := SetAt.new (w.alloc (Obj.cells (bsA noB) 219)) noB
  simpa using this
 by_cases h100 : c = 100
 case pos =>
  subst h100
  go_enter Tryz.func166, Tryz.ntmps166
  go_upto_region 2 with (fail)
  generalize ((w.alloc (Obj.cells (bsA noB) 219)).alloc (Obj.cells (bsA noB) 219)) = w0 at g0 r0 s0 ⊢
  clear hz hsz
  go_wp2_with fail
  refine (adds_any (w.heap.size + 1) _ 48 57 _ (by decide) (by decide) s0).mono ?_
  rintro e w1 ⟨rfl, hg1, s1⟩
  have g1 := GX.gr g0 hg1 (Nat.le_succ _)
  have r1 := r0.gx hg1 (by simp)
  clear hg1 s0 g0 r0
  have sk : SetAt w1 (w.heap.size + 1) digB := s1.eq (fun i _ => by simp only [orB, noB, digB, wordB, spB, Bool.false_or])
  clear s1
  go_wp2_with (first
    | (refine wpList_load_row rfl 219 (.tmp 4) rfl (w.heap.size + 1) rfl _ (bsA digB) (0, 0) _ sk und_set rfl (size_bsA _) ?_)
    | (refine wpList_store_row rfl 219 (.tmp 2) (.tmp 27) rfl (w.heap.size) (bsA digB) rfl rfl _ _ r1 (size_bsA _) (by simp only [bsA_size]) (bsA_one _) ?_))
  exact bodyPost_ret (v := .tuple #[.agg (bsA digB), .bool true]) (res_set2 _ 2 3 (by kernel_rfl) _ _ w.heap.size _ _ rfl rfl (SetAt.row r1)) rfl ⟨rfl, Gr.setRow g1 (Nat.le_refl _) _⟩
 by_cases h68 : c = 68
 case pos =>
  subst h68
  go_enter Tryz.func166, Tryz.ntmps166
  go_upto_region 2 with (fail)
  generalize ((w.alloc (Obj.cells (bsA noB) 219)).alloc (Obj.cells (bsA noB) 219)) = w0 at g0 r0 s0 ⊢
  clear hz hsz
  go_wp2_with fail
  refine (adds_any (w.heap.size + 1) _ 48 57 _ (by decide) (by decide) s0).mono ?_
  rintro e w1 ⟨rfl, hg1, s1⟩
  have g1 := GX.gr g0 hg1 (Nat.le_succ _)
  have r1 := r0.gx hg1 (by simp)
  clear hg1 s0 g0 r0
  have sk : SetAt w1 (w.heap.size + 1) digB := s1.eq (fun i _ => by simp only [orB, noB, digB, wordB, spB, Bool.false_or])
  clear s1
  go_wp2_with (first
    | (refine wpList_load_row rfl 219 (.tmp 4) rfl (w.heap.size + 1) rfl _ (bsA digB) (0, 0) _ sk und_set rfl (size_bsA _) ?_)
    | (go_at_call 154; refine (not_any _ _).mono ?_; rintro e wn ⟨rfl, hn⟩; have gk := Gr.trans g1 hn; have rk := r1.gr hn; have sn := sk.gr hn; have SN := SetAt.row (f := notB digB) sn; have RN : SetAt (wn.setRow (w.heap.size + 1) (bsA (notB digB))) w.heap.size noB := (setRow_other _ _ _ _ (by simp)).trans rk; have GN := Gr.setRow gk (g := w.heap.size + 1) (Nat.le_succ _) (bsA (notB digB)); clear gk rk g1 r1 hn sk)
    | (refine wpList_store_row rfl 219 (.tmp 4) (.tmp 26) rfl (w.heap.size + 1) (bsA (notB digB)) rfl rfl _ _ sn (size_bsA _) (by simp only [bsA_size]) (bsA_one _) ?_)
    | (refine wpList_load_row rfl 219 (.tmp 4) rfl (w.heap.size + 1) rfl _ (bsA (notB digB)) (0, 0) _ SN und_set rfl (size_bsA _) ?_)
    | (refine wpList_store_row rfl 219 (.tmp 2) (.tmp 27) rfl (w.heap.size) (bsA (notB digB)) rfl rfl _ _ RN (size_bsA _) (by simp only [bsA_size]) (bsA_one _) ?_))
  exact bodyPost_ret (v := .tuple #[.agg (bsA (notB digB)), .bool true]) (res_set2 _ 2 3 (by kernel_rfl) _ _ w.heap.size _ _ rfl rfl (SetAt.row RN)) rfl ⟨rfl, Gr.setRow GN (Nat.le_refl _) _⟩
 by_cases h119 : c = 119
 case pos =>
  subst h119
  go_enter Tryz.func166, Tryz.ntmps166
  go_upto_region 2 with (fail)
  generalize ((w.alloc (Obj.cells (bsA noB) 219)).alloc (Obj.cells (bsA noB) 219)) = w0 at g0 r0 s0 ⊢
  clear hz hsz
  go_wp2_with fail
  refine (adds_any (w.heap.size + 1) _ 48 57 _ (by decide) (by decide) s0).mono ?_
  rintro e w1 ⟨rfl, hg1, s1⟩
  have g1 := GX.gr g0 hg1 (Nat.le_succ _)
  have r1 := r0.gx hg1 (by simp)
  clear hg1 s0 g0 r0
  go_wp2_with fail
  refine (adds_any (w.heap.size + 1) _ 97 122 _ (by decide) (by decide) s1).mono ?_
  rintro e w2 ⟨rfl, hg2, s2⟩
  have g2 := GX.gr g1 hg2 (Nat.le_succ _)
  have r2 := r1.gx hg2 (by simp)
  clear hg2 s1 g1 r1
  go_wp2_with fail
  refine (adds_any (w.heap.size + 1) _ 65 90 _ (by decide) (by decide) s2).mono ?_
  rintro e w3 ⟨rfl, hg3, s3⟩
  have g3 := GX.gr g2 hg3 (Nat.le_succ _)
  have r3 := r2.gx hg3 (by simp)
  clear hg3 s2 g2 r2
  go_wp2_with fail
  refine (adds_any (w.heap.size + 1) _ 95 95 _ (by decide) (by decide) s3).mono ?_
  rintro e w4 ⟨rfl, hg4, s4⟩
  have g4 := GX.gr g3 hg4 (Nat.le_succ _)
  have r4 := r3.gx hg4 (by simp)
  clear hg4 s3 g3 r3
  have sk : SetAt w4 (w.heap.size + 1) wordB := s4.eq (fun i _ => by simp only [orB, noB, digB, wordB, spB, Bool.false_or])
  clear s4
  go_wp2_with (first
    | (refine wpList_load_row rfl 219 (.tmp 4) rfl (w.heap.size + 1) rfl _ (bsA wordB) (0, 0) _ sk und_set rfl (size_bsA _) ?_)
    | (refine wpList_store_row rfl 219 (.tmp 2) (.tmp 27) rfl (w.heap.size) (bsA wordB) rfl rfl _ _ r4 (size_bsA _) (by simp only [bsA_size]) (bsA_one _) ?_))
  exact bodyPost_ret (v := .tuple #[.agg (bsA wordB), .bool true]) (res_set2 _ 2 3 (by kernel_rfl) _ _ w.heap.size _ _ rfl rfl (SetAt.row r4)) rfl ⟨rfl, Gr.setRow g4 (Nat.le_refl _) _⟩
 by_cases h87 : c = 87
 case pos =>
  subst h87
  go_enter Tryz.func166, Tryz.ntmps166
  go_upto_region 2 with (fail)
  generalize ((w.alloc (Obj.cells (bsA noB) 219)).alloc (Obj.cells (bsA noB) 219)) = w0 at g0 r0 s0 ⊢
  clear hz hsz
  go_wp2_with fail
  refine (adds_any (w.heap.size + 1) _ 48 57 _ (by decide) (by decide) s0).mono ?_
  rintro e w1 ⟨rfl, hg1, s1⟩
  have g1 := GX.gr g0 hg1 (Nat.le_succ _)
  have r1 := r0.gx hg1 (by simp)
  clear hg1 s0 g0 r0
  go_wp2_with fail
  refine (adds_any (w.heap.size + 1) _ 97 122 _ (by decide) (by decide) s1).mono ?_
  rintro e w2 ⟨rfl, hg2, s2⟩
  have g2 := GX.gr g1 hg2 (Nat.le_succ _)
  have r2 := r1.gx hg2 (by simp)
  clear hg2 s1 g1 r1
  go_wp2_with fail
  refine (adds_any (w.heap.size + 1) _ 65 90 _ (by decide) (by decide) s2).mono ?_
  rintro e w3 ⟨rfl, hg3, s3⟩
  have g3 := GX.gr g2 hg3 (Nat.le_succ _)
  have r3 := r2.gx hg3 (by simp)
  clear hg3 s2 g2 r2
  go_wp2_with fail
  refine (adds_any (w.heap.size + 1) _ 95 95 _ (by decide) (by decide) s3).mono ?_
  rintro e w4 ⟨rfl, hg4, s4⟩
  have g4 := GX.gr g3 hg4 (Nat.le_succ _)
  have r4 := r3.gx hg4 (by simp)
  clear hg4 s3 g3 r3
  have sk : SetAt w4 (w.heap.size + 1) wordB := s4.eq (fun i _ => by simp only [orB, noB, digB, wordB, spB, Bool.false_or])
  clear s4
  go_wp2_with (first
    | (refine wpList_load_row rfl 219 (.tmp 4) rfl (w.heap.size + 1) rfl _ (bsA wordB) (0, 0) _ sk und_set rfl (size_bsA _) ?_)
    | (go_at_call 154; refine (not_any _ _).mono ?_; rintro e wn ⟨rfl, hn⟩; have gk := Gr.trans g4 hn; have rk := r4.gr hn; have sn := sk.gr hn; have SN := SetAt.row (f := notB wordB) sn; have RN : SetAt (wn.setRow (w.heap.size + 1) (bsA (notB wordB))) w.heap.size noB := (setRow_other _ _ _ _ (by simp)).trans rk; have GN := Gr.setRow gk (g := w.heap.size + 1) (Nat.le_succ _) (bsA (notB wordB)); clear gk rk g4 r4 hn sk)
    | (refine wpList_store_row rfl 219 (.tmp 4) (.tmp 26) rfl (w.heap.size + 1) (bsA (notB wordB)) rfl rfl _ _ sn (size_bsA _) (by simp only [bsA_size]) (bsA_one _) ?_)
    | (refine wpList_load_row rfl 219 (.tmp 4) rfl (w.heap.size + 1) rfl _ (bsA (notB wordB)) (0, 0) _ SN und_set rfl (size_bsA _) ?_)
    | (refine wpList_store_row rfl 219 (.tmp 2) (.tmp 27) rfl (w.heap.size) (bsA (notB wordB)) rfl rfl _ _ RN (size_bsA _) (by simp only [bsA_size]) (bsA_one _) ?_))
  exact bodyPost_ret (v := .tuple #[.agg (bsA (notB wordB)), .bool true]) (res_set2 _ 2 3 (by kernel_rfl) _ _ w.heap.size _ _ rfl rfl (SetAt.row RN)) rfl ⟨rfl, Gr.setRow GN (Nat.le_refl _) _⟩
 by_cases h115 : c = 115
 case pos =>
  subst h115
  go_enter Tryz.func166, Tryz.ntmps166
  go_upto_region 2 with (fail)
  generalize ((w.alloc (Obj.cells (bsA noB) 219)).alloc (Obj.cells (bsA noB) 219)) = w0 at g0 r0 s0 ⊢
  clear hz hsz
  go_wp2_with fail
  refine (adds_any (w.heap.size + 1) _ 9 13 _ (by decide) (by decide) s0).mono ?_
  rintro e w1 ⟨rfl, hg1, s1⟩
  have g1 := GX.gr g0 hg1 (Nat.le_succ _)
  have r1 := r0.gx hg1 (by simp)
  clear hg1 s0 g0 r0
  go_wp2_with fail
  refine (adds_any (w.heap.size + 1) _ 32 32 _ (by decide) (by decide) s1).mono ?_
  rintro e w2 ⟨rfl, hg2, s2⟩
  have g2 := GX.gr g1 hg2 (Nat.le_succ _)
  have r2 := r1.gx hg2 (by simp)
  clear hg2 s1 g1 r1
  have sk : SetAt w2 (w.heap.size + 1) spB := s2.eq (fun i _ => by simp only [orB, noB, digB, wordB, spB, Bool.false_or])
  clear s2
  go_wp2_with (first
    | (refine wpList_load_row rfl 219 (.tmp 4) rfl (w.heap.size + 1) rfl _ (bsA spB) (0, 0) _ sk und_set rfl (size_bsA _) ?_)
    | (refine wpList_store_row rfl 219 (.tmp 2) (.tmp 27) rfl (w.heap.size) (bsA spB) rfl rfl _ _ r2 (size_bsA _) (by simp only [bsA_size]) (bsA_one _) ?_))
  exact bodyPost_ret (v := .tuple #[.agg (bsA spB), .bool true]) (res_set2 _ 2 3 (by kernel_rfl) _ _ w.heap.size _ _ rfl rfl (SetAt.row r2)) rfl ⟨rfl, Gr.setRow g2 (Nat.le_refl _) _⟩
 by_cases h83 : c = 83
 case pos =>
  subst h83
  go_enter Tryz.func166, Tryz.ntmps166
  go_upto_region 2 with (fail)
  generalize ((w.alloc (Obj.cells (bsA noB) 219)).alloc (Obj.cells (bsA noB) 219)) = w0 at g0 r0 s0 ⊢
  clear hz hsz
  go_wp2_with fail
  refine (adds_any (w.heap.size + 1) _ 9 13 _ (by decide) (by decide) s0).mono ?_
  rintro e w1 ⟨rfl, hg1, s1⟩
  have g1 := GX.gr g0 hg1 (Nat.le_succ _)
  have r1 := r0.gx hg1 (by simp)
  clear hg1 s0 g0 r0
  go_wp2_with fail
  refine (adds_any (w.heap.size + 1) _ 32 32 _ (by decide) (by decide) s1).mono ?_
  rintro e w2 ⟨rfl, hg2, s2⟩
  have g2 := GX.gr g1 hg2 (Nat.le_succ _)
  have r2 := r1.gx hg2 (by simp)
  clear hg2 s1 g1 r1
  have sk : SetAt w2 (w.heap.size + 1) spB := s2.eq (fun i _ => by simp only [orB, noB, digB, wordB, spB, Bool.false_or])
  clear s2
  go_wp2_with (first
    | (refine wpList_load_row rfl 219 (.tmp 4) rfl (w.heap.size + 1) rfl _ (bsA spB) (0, 0) _ sk und_set rfl (size_bsA _) ?_)
    | (go_at_call 154; refine (not_any _ _).mono ?_; rintro e wn ⟨rfl, hn⟩; have gk := Gr.trans g2 hn; have rk := r2.gr hn; have sn := sk.gr hn; have SN := SetAt.row (f := notB spB) sn; have RN : SetAt (wn.setRow (w.heap.size + 1) (bsA (notB spB))) w.heap.size noB := (setRow_other _ _ _ _ (by simp)).trans rk; have GN := Gr.setRow gk (g := w.heap.size + 1) (Nat.le_succ _) (bsA (notB spB)); clear gk rk g2 r2 hn sk)
    | (refine wpList_store_row rfl 219 (.tmp 4) (.tmp 26) rfl (w.heap.size + 1) (bsA (notB spB)) rfl rfl _ _ sn (size_bsA _) (by simp only [bsA_size]) (bsA_one _) ?_)
    | (refine wpList_load_row rfl 219 (.tmp 4) rfl (w.heap.size + 1) rfl _ (bsA (notB spB)) (0, 0) _ SN und_set rfl (size_bsA _) ?_)
    | (refine wpList_store_row rfl 219 (.tmp 2) (.tmp 27) rfl (w.heap.size) (bsA (notB spB)) rfl rfl _ _ RN (size_bsA _) (by simp only [bsA_size]) (bsA_one _) ?_))
  exact bodyPost_ret (v := .tuple #[.agg (bsA (notB spB)), .bool true]) (res_set2 _ 2 3 (by kernel_rfl) _ _ w.heap.size _ _ rfl rfl (SetAt.row RN)) rfl ⟨rfl, Gr.setRow GN (Nat.le_refl _) _⟩
 have q100 : ((c : Int) == 100) = false := beq_eq_false_iff_ne.2 (by omega)
 have q68 : ((c : Int) == 68) = false := beq_eq_false_iff_ne.2 (by omega)
 have q119 : ((c : Int) == 119) = false := beq_eq_false_iff_ne.2 (by omega)
 have q87 : ((c : Int) == 87) = false := beq_eq_false_iff_ne.2 (by omega)
 have q115 : ((c : Int) == 115) = false := beq_eq_false_iff_ne.2 (by omega)
 have q83 : ((c : Int) == 83) = false := beq_eq_false_iff_ne.2 (by omega)
 have e1 : nmB c = noB := by simp [nmB, namedB, beq_eq_false_iff_ne.2 h100, beq_eq_false_iff_ne.2 h68, beq_eq_false_iff_ne.2 h119, beq_eq_false_iff_ne.2 h87, beq_eq_false_iff_ne.2 h115, beq_eq_false_iff_ne.2 h83]
 have e2 : isNamed c = false := by simp [isNamed, namedB, beq_eq_false_iff_ne.2 h100, beq_eq_false_iff_ne.2 h68, beq_eq_false_iff_ne.2 h119, beq_eq_false_iff_ne.2 h87, beq_eq_false_iff_ne.2 h115, beq_eq_false_iff_ne.2 h83]
 rw [e1, e2]
 clear e1 e2 h100 h68 h119 h87 h115 h83
 go_enter Tryz.func166, Tryz.ntmps166
 go_upto_region 2 with (fail)
 generalize ((w.alloc (Obj.cells (bsA noB) 219)).alloc (Obj.cells (bsA noB) 219)) = w0 at g0 r0 s0 ⊢
 clear hz hsz
 go_wp2_with (first
    | (refine wpList_load_row rfl 219 (.tmp 4) rfl (w.heap.size + 1) rfl _ (bsA noB) (0, 0) _ s0 und_set rfl (size_bsA _) ?_)
    | (refine wpList_store_row rfl 219 (.tmp 2) (.tmp 6) rfl (w.heap.size) (bsA noB) rfl rfl _ _ r0 (size_bsA _) (by simp only [bsA_size]) (bsA_one _) ?_))
 exact bodyPost_ret (v := .tuple #[.agg (bsA noB), .bool false]) (res_set2 _ 2 3 (by kernel_rfl) _ _ w.heap.size _ _ rfl rfl (SetAt.row r0)) rfl ⟨rfl, Gr.setRow g0 (Nat.le_refl _) _⟩
end Go.Proofs.YtjapddfnpmlifaaGreatDoor
namespace Go.Proofs.YtjapddfnpmlifaaGreatDoor
open Go.RowKit
set_option linter.unusedVariables false
set_option linter.unusedSimpArgs false

def bcells (l : List UInt8) : List Value := l.map fun b => .int .u8 (b.toNat : Int)
theorem bcells_append (l m : List UInt8) : bcells (l ++ m) = bcells l ++ bcells m := by simp [bcells]
theorem bcells_one (l : List UInt8) : ∀ u ∈ bcells l, u.oneCell' = true := by
 intro u hu
 simp only [bcells, List.mem_map] at hu
 obtain ⟨b, _, rfl⟩ := hu
 rfl
/-- 'string(b)' of a row of the call's own. -/
theorem conv_own {P : Program} {w : World} {src dst e : TypeId} {base : Nat} {v : Value} {l : List UInt8} (hs : P.underlying src = some (.slice e)) (he : P.underlying e = some (.int .u8)) (hd : P.underlying dst = some .string)
  (h : w.ownsRow base e 1 v l.length (bcells l)) : (convert src dst v).run P w = .ok (.string ⟨l.toArray⟩) w := by
 obtain ⟨_, ⟨rfl, h0⟩ | ⟨g, cap, cur, rfl, _⟩⟩ := id h
 ·
  have hl : l = [] := List.eq_nil_of_length_eq_zero h0
  subst hl
  rw [run_convert_bytes_string w src dst e none 0 0 hs he hd]
  simp [Conv.bytesToString]
  rfl
 ·
  exact run_convert_bytes_back w src dst e _ cap l hs he hd (fun j hj => h.cells (g := g) rfl j _ (by simp [bcells, hj]))
/-- a new array that holds one byte. -/
theorem Rd.byte {W : World} {B : Nat} (hB : B = W.heap.size) (T : TypeId) (u : Value) : Rd (W.alloc (.cells #[u] T)) 1 (some ⟨B, 0, none⟩) 1 [u] := by
 subst hB
 refine ⟨rfl, fun _ => ⟨_, rfl, by simp, fun j x hx => ?_⟩⟩
 have e : (⟨W.heap.size, 0, none⟩ : Addr).add j = ⟨W.heap.size, j, none⟩ := by
  unfold Addr.add; split
  ·
   rename_i h; subst h; rfl
  ·
   rw [Nat.zero_add]
 rw [e]
 exact (cell_of_row _ _ _ _ _ _ (heap_alloc_new W _)).trans (by simpa using hx)

theorem one1 {k : IntKind} (n : Int) : ∀ u ∈ [Value.int k n], u.oneCell' = true := by
 intro u hu
 rw [List.mem_singleton.1 hu]
 rfl
theorem und_bytes : Tryz.prog.underlying 85 = some (.slice 5) := by kernel_rfl
theorem und_u8 : Tryz.prog.underlying 5 = some (.int .u8) := by kernel_rfl
theorem und_str : Tryz.prog.underlying 9 = some .string := by kernel_rfl
theorem info_u8 : (Tryz.prog.info? 5).map (fun i => (i.zero, i.size, i.bytes)) = some (some (.int .u8 0), 1, 1) := by kernel_rfl

theorem pairsT_len (f : Bs) (k : Nat) : (pairsT f k).length ≤ 2 * k := by
 induction k with
 | zero => exact Nat.le_refl _
 | succ k ih =>
  unfold pairsT
  simp only [List.length_append]
  have a : ∀ b : Bool, (bif b then [UInt8.ofNat k] else []).length ≤ 1 := fun b => by cases b <;> simp
  have a1 := a (f k && (k == 0 || !f (k - 1)))
  have a2 := a (f k && (k == 255 || !f (k + 1)))
  omega
theorem pairsT_no {f : Bs} {k : Nat} (h : f k = false) : pairsT f (k + 1) = pairsT f k := by simp [pairsT, h]
theorem pairsT_in {f : Bs} {k : Nat} {s e : Bool} (h : f k = true) (hs : (k == 0 || !f (k - 1)) = s) (he : (k == 255 || !f (k + 1)) = e) :
  pairsT f (k + 1) = pairsT f k ++ ((bif s then [UInt8.ofNat k] else []) ++ (bif e then [UInt8.ofNat k] else [])) := by
 simp only [pairsT, h, hs, he, Bool.true_and]
theorem byteCell {k : Nat} (h : k < 256) : bcells [UInt8.ofNat k] = [.int .u8 k] := by
 have : (UInt8.ofNat k).toNat = k := by simp [Nat.mod_eq_of_lt h]
 simp [bcells, this]

set_option maxRecDepth 100000 in
set_option maxHeartbeats 1600000 in
theorem isWord_any (c : Nat) (w : World) (hc : c < 256) :
  Calls Tryz.prog 167 #[.int .u8 c] w fun e w' => e = .returned (.bool (isWordB c)) ∧ Gr w w' := by
 obtain ⟨hz, hsz⟩ := zero_of_info info_set
 have h3 : (c : Int) < 256 := by omega
 have Q := fun w => named_any 119 w (by decide)
 simp only [show nmB 119 = wordB from rfl, show isNamed 119 = true from rfl] at Q
 go_enter Tryz.func167, Tryz.ntmps167
 go_upto_region 2 with (first
  | (go_at_call 166; refine (Q _).mono ?_; rintro e w1 ⟨rfl, hg1⟩)
  | (refine wpList_store_row rfl 219 (.tmp 3) (.tmp 7) rfl w1.heap.size (bsA wordB) rfl rfl _ _ (SetAt.new w1 noB) (size_bsA _) (by simp only [bsA_size]) (bsA_one _) ?_))
 have S1 : SetAt ((w1.alloc (.cells (bsA noB) 219)).setRow w1.heap.size (bsA wordB)) w1.heap.size wordB := SetAt.row (SetAt.new w1 noB)
 have G1 : Gr w ((w1.alloc (.cells (bsA noB) 219)).setRow w1.heap.size (bsA wordB)) := Gr.setRow (Gr.alloc hg1 _) hg1.size _
 generalize ((w1.alloc (.cells (bsA noB) 219)).setRow w1.heap.size (bsA wordB)) = w2 at S1 G1 ⊢
 clear hz hsz Q hg1
 have hcell := S1.cell hc
 clear S1
 by_cases h95 : c = 95
 ·
  subst h95
  go_wp2
  go_ret
  exact ⟨rfl, G1⟩
 ·
  have hq : ((c : Int) != 95) = true := by simp [bne, beq_eq_false_iff_ne.2 (show (c : Int) ≠ 95 by omega)]
  have hr : isWordB c = wordB c := by simp [isWordB, beq_eq_false_iff_ne.2 h95]
  have HR := Lib.hid hr
  clear hr
  cases hb : wordB c
  all_goals
   rw [hb] at hcell HR
   clear hb
   go_wp2
   go_ret
   exact ⟨by rw [HR.out]; rfl, G1⟩

theorem und_bool : Tryz.prog.underlying 4 = some .bool := by kernel_rfl
theorem SetAt.grown {w w' : World} {g : Nat} {f : Bs} {row : Option Nat} (h : SetAt w g f) (x : w.grownBy w' row) (hn : some g ≠ row) : SetAt w' g f := (x.block g h.lt hn).trans h
set_option maxRecDepth 100000 in
set_option maxHeartbeats 3200000 in
theorem pairs_any (f : Bs) (w : World) :
  Calls Tryz.prog 155 #[.agg (bsA f)] w fun e w' => e = .returned (.string ⟨(pairsS f).toArray⟩) ∧ Gr w w' := by
 obtain ⟨i0, hi, hz0, hz1, hz2⟩ := info_parts info_u8
 have g0 : Gr w (w.alloc (Obj.cells (bsA f) 219)) := (by repeat (first | exact Gr.refl _ | refine Gr.alloc ?_ _ | refine Gr.drew ?_ | refine Gr.setCell ?_ (by first | (simp; done) | (simp; omega) | omega) _ | refine Gr.trans ?_ (by assumption)))
 have s0 : SetAt (w.alloc (Obj.cells (bsA f) 219)) w.heap.size f := SetAt.new w f
 go_enter Tryz.func155, Tryz.ntmps155
 go_wp2
 generalize (w.alloc (Obj.cells (bsA f) 219)) = w0 at g0 s0 ⊢
 go_loopw [3, 5] (fun v i wr => ∃ k : Nat, k ≤ 256 ∧ i = .int .i64 k ∧ Gr w wr ∧ SetAt wr w.heap.size f ∧ wr.ownsRow (w.heap.size + 1) 5 1 v (pairsT f k).length (bcells (pairsT f k))) (fun _ i _ => 256 - (intOf i).toNat)
 case atStart => exact ⟨0, by omega, rfl, g0, s0, World.ownsRow_nil _ _ _ _⟩
 case round =>
  clear g0 s0
  obtain ⟨k, hk, rfl, hgr, hs, hown⟩ := hrel
  have hle := pairsT_len f k
  by_cases hlt : k < 256
  ·
   have hcell := hs.cell hlt
   have h3 : (k : Int) < 256 := by omega
   cases hb : f k
   case false =>
    rw [hb] at hcell
    have HN := Lib.hid (pairsT_no hb)
    clear hb
    go_wp2
    go_roundw
    case rel => exact ⟨k + 1, by omega, by go_num, hgr, hs, by rw [HN.out]; exact hown⟩
    case measure => simp [intOf]; omega
   rw [hb] at hcell
   have HP := fun s e => pairsT_in (s := s) (e := e) hb
   have hB := Lib.hid hb
   clear hb
   by_cases hK0 : k = 0
   ·
    by_cases hK2 : k = 255
    ·
     omega
    cases hN : f (k + 1)
    ·
     have hk0 : ((k : Int) == 0) = true := beq_iff_eq.2 (by omega)
     have hk2 : ((k : Int) == 255) = false := beq_eq_false_iff_ne.2 (by omega)
     have hk3 : (k : Int) ≤ 254 := by omega
     have hcn := hs.cell (i := k + 1) (by omega)
     rw [hN] at hcn
     have HPN := Lib.hid (HP true true (by simp [hK0]) (by simp [hN, hK2]))
     clear HP hK0 hK2 
     have HN := Lib.hid hN
     clear hN
     have hm1 := Lib.hid (show (pairsT f k).length + 1 ≤ maxLen by unfold maxLen; omega)
     have hm2 := Lib.hid (show (pairsT f k).length + 1 + 1 ≤ maxLen by unfold maxLen; omega)
     have hn1 := Lib.hid (show ((pairsT f k).length + 1) * 1 ≤ 140737488355328 by omega)
     have hn2 := Lib.hid (show ((pairsT f k).length + 1 + 1) * 1 ≤ 140737488355328 by omega)
     have hb1 := Lib.hid (show w.heap.size + 1 ≤ wr.heap.size from hs.lt)
     go_wp2_with (first
      | (
        at_builtin
        refine wpList_append_rd rfl (.tmp 22) (.tmp 25) 85 rfl (w.heap.size + 1) 5 i0 _ 1 1 und_bytes hi hz0 hz1 hz2 rfl (by decide) _ _ _ rfl (hown.alloc _) (some ⟨wr.heap.size, 0, none⟩) 1 _ [.int .u8 k] rfl (Rd.byte rfl 5 _) (one1 _) hm1.out hn1.out (Nat.le_trans hb1.out (Nat.le_of_lt (by simp))) ?_
        intro v1 w1 hown1 hgr1 hat1
        have hl1 := hown.lt
        have gg1 : Gr w w1 := Gr.grown (Gr.alloc hgr _) hgr1 (fun j hj => by have := (hl1 j hj).1; omega)
        have ss1 : SetAt w1 w.heap.size f := (hs.gr (Gr.alloc (Gr.refl _) _)).grown hgr1 (fun e => by have := (hl1 _ e.symm).1; omega)
        have hb2 := Lib.hid (Nat.le_trans hb1.out (Nat.le_trans (Nat.le_of_lt (by simp)) hgr1.size))
        have hcell1 := ss1.cell hlt
        rw [hB.out] at hcell1
        have hcn1 := ss1.cell (i := k + 1) (by omega)
        rw [HN.out] at hcn1
        clear hgr1 hat1 hl1 hown hs hgr)
      | (
        at_builtin
        refine wpList_append_rd rfl (.tmp 41) (.tmp 44) 85 rfl (w.heap.size + 1) 5 i0 _ 1 1 und_bytes hi hz0 hz1 hz2 rfl (by decide) _ _ _ rfl (hown1.alloc _) (some ⟨w1.heap.size, 0, none⟩) 1 _ [.int .u8 k] rfl (Rd.byte rfl 5 _) (one1 _) hm2.out hn2.out (Nat.le_trans hb2.out (Nat.le_of_lt (by simp))) ?_
        intro v2 w2 hown2 hgr2 hat2
        have hl2 := hown1.lt
        have gg2 : Gr w w2 := Gr.grown (Gr.alloc gg1 _) hgr2 (fun j hj => by have := (hl2 j hj).1; omega)
        have ss2 : SetAt w2 w.heap.size f := (ss1.gr (Gr.alloc (Gr.refl _) _)).grown hgr2 (fun e => by have := (hl2 _ e.symm).1; omega)
        have hb3 := Lib.hid (Nat.le_trans hb2.out (Nat.le_trans (Nat.le_of_lt (by simp)) hgr2.size))
        have hcell2 := ss2.cell hlt
        rw [hB.out] at hcell2
        clear hgr2 hat2 hl2 hown1 ss1 gg1))
     go_roundw
     case rel => exact ⟨k + 1, by omega, by go_num, gg2, ss2, by rw [HPN.out]; simpa only [cond_true, cond_false, List.length_append, List.length_cons, List.length_nil, List.append_nil, List.nil_append, bcells_append, byteCell hlt, List.append_assoc, Nat.zero_add, Nat.add_zero, Nat.add_assoc] using hown2⟩
     case measure => simp [intOf]; omega
    ·
     have hk0 : ((k : Int) == 0) = true := beq_iff_eq.2 (by omega)
     have hk2 : ((k : Int) == 255) = false := beq_eq_false_iff_ne.2 (by omega)
     have hk3 : (k : Int) ≤ 254 := by omega
     have hcn := hs.cell (i := k + 1) (by omega)
     rw [hN] at hcn
     have HPN := Lib.hid (HP true false (by simp [hK0]) (by simp [hN, hK2]))
     clear HP hK0 hK2 
     have HN := Lib.hid hN
     clear hN
     have hm1 := Lib.hid (show (pairsT f k).length + 1 ≤ maxLen by unfold maxLen; omega)
     have hm2 := Lib.hid (show (pairsT f k).length + 1 + 1 ≤ maxLen by unfold maxLen; omega)
     have hn1 := Lib.hid (show ((pairsT f k).length + 1) * 1 ≤ 140737488355328 by omega)
     have hn2 := Lib.hid (show ((pairsT f k).length + 1 + 1) * 1 ≤ 140737488355328 by omega)
     have hb1 := Lib.hid (show w.heap.size + 1 ≤ wr.heap.size from hs.lt)
     go_wp2_with (first
      | (
        at_builtin
        refine wpList_append_rd rfl (.tmp 22) (.tmp 25) 85 rfl (w.heap.size + 1) 5 i0 _ 1 1 und_bytes hi hz0 hz1 hz2 rfl (by decide) _ _ _ rfl (hown.alloc _) (some ⟨wr.heap.size, 0, none⟩) 1 _ [.int .u8 k] rfl (Rd.byte rfl 5 _) (one1 _) hm1.out hn1.out (Nat.le_trans hb1.out (Nat.le_of_lt (by simp))) ?_
        intro v1 w1 hown1 hgr1 hat1
        have hl1 := hown.lt
        have gg1 : Gr w w1 := Gr.grown (Gr.alloc hgr _) hgr1 (fun j hj => by have := (hl1 j hj).1; omega)
        have ss1 : SetAt w1 w.heap.size f := (hs.gr (Gr.alloc (Gr.refl _) _)).grown hgr1 (fun e => by have := (hl1 _ e.symm).1; omega)
        have hb2 := Lib.hid (Nat.le_trans hb1.out (Nat.le_trans (Nat.le_of_lt (by simp)) hgr1.size))
        have hcell1 := ss1.cell hlt
        rw [hB.out] at hcell1
        have hcn1 := ss1.cell (i := k + 1) (by omega)
        rw [HN.out] at hcn1
        clear hgr1 hat1 hl1 hown hs hgr))
     go_roundw
     case rel => exact ⟨k + 1, by omega, by go_num, gg1, ss1, by rw [HPN.out]; simpa only [cond_true, cond_false, List.length_append, List.length_cons, List.length_nil, List.append_nil, List.nil_append, bcells_append, byteCell hlt, List.append_assoc, Nat.zero_add, Nat.add_zero, Nat.add_assoc] using hown1⟩
     case measure => simp [intOf]; omega
   cases hP : f (k - 1)
   ·
    by_cases hK2 : k = 255
    ·
     have hk0 : ((k : Int) == 0) = false := beq_eq_false_iff_ne.2 (by omega)
     have hk1 : 1 ≤ (k : Int) := by omega
     have hcp := hs.cell (i := k - 1) (by omega)
     rw [hP] at hcp
     have hk2 : ((k : Int) == 255) = true := beq_iff_eq.2 (by omega)
     have HPN := Lib.hid (HP true true (by simp [hP, hK0]) (by simp [hK2]))
     clear HP hK0 hK2 hP 
     have hm1 := Lib.hid (show (pairsT f k).length + 1 ≤ maxLen by unfold maxLen; omega)
     have hm2 := Lib.hid (show (pairsT f k).length + 1 + 1 ≤ maxLen by unfold maxLen; omega)
     have hn1 := Lib.hid (show ((pairsT f k).length + 1) * 1 ≤ 140737488355328 by omega)
     have hn2 := Lib.hid (show ((pairsT f k).length + 1 + 1) * 1 ≤ 140737488355328 by omega)
     have hb1 := Lib.hid (show w.heap.size + 1 ≤ wr.heap.size from hs.lt)
     go_wp2_with (first
      | (
        at_builtin
        refine wpList_append_rd rfl (.tmp 22) (.tmp 25) 85 rfl (w.heap.size + 1) 5 i0 _ 1 1 und_bytes hi hz0 hz1 hz2 rfl (by decide) _ _ _ rfl (hown.alloc _) (some ⟨wr.heap.size, 0, none⟩) 1 _ [.int .u8 k] rfl (Rd.byte rfl 5 _) (one1 _) hm1.out hn1.out (Nat.le_trans hb1.out (Nat.le_of_lt (by simp))) ?_
        intro v1 w1 hown1 hgr1 hat1
        have hl1 := hown.lt
        have gg1 : Gr w w1 := Gr.grown (Gr.alloc hgr _) hgr1 (fun j hj => by have := (hl1 j hj).1; omega)
        have ss1 : SetAt w1 w.heap.size f := (hs.gr (Gr.alloc (Gr.refl _) _)).grown hgr1 (fun e => by have := (hl1 _ e.symm).1; omega)
        have hb2 := Lib.hid (Nat.le_trans hb1.out (Nat.le_trans (Nat.le_of_lt (by simp)) hgr1.size))
        have hcell1 := ss1.cell hlt
        rw [hB.out] at hcell1
        clear hgr1 hat1 hl1 hown hs hgr)
      | (
        at_builtin
        refine wpList_append_rd rfl (.tmp 41) (.tmp 44) 85 rfl (w.heap.size + 1) 5 i0 _ 1 1 und_bytes hi hz0 hz1 hz2 rfl (by decide) _ _ _ rfl (hown1.alloc _) (some ⟨w1.heap.size, 0, none⟩) 1 _ [.int .u8 k] rfl (Rd.byte rfl 5 _) (one1 _) hm2.out hn2.out (Nat.le_trans hb2.out (Nat.le_of_lt (by simp))) ?_
        intro v2 w2 hown2 hgr2 hat2
        have hl2 := hown1.lt
        have gg2 : Gr w w2 := Gr.grown (Gr.alloc gg1 _) hgr2 (fun j hj => by have := (hl2 j hj).1; omega)
        have ss2 : SetAt w2 w.heap.size f := (ss1.gr (Gr.alloc (Gr.refl _) _)).grown hgr2 (fun e => by have := (hl2 _ e.symm).1; omega)
        have hb3 := Lib.hid (Nat.le_trans hb2.out (Nat.le_trans (Nat.le_of_lt (by simp)) hgr2.size))
        have hcell2 := ss2.cell hlt
        rw [hB.out] at hcell2
        clear hgr2 hat2 hl2 hown1 ss1 gg1))
     go_roundw
     case rel => exact ⟨k + 1, by omega, by go_num, gg2, ss2, by rw [HPN.out]; simpa only [cond_true, cond_false, List.length_append, List.length_cons, List.length_nil, List.append_nil, List.nil_append, bcells_append, byteCell hlt, List.append_assoc, Nat.zero_add, Nat.add_zero, Nat.add_assoc] using hown2⟩
     case measure => simp [intOf]; omega
    cases hN : f (k + 1)
    ·
     have hk0 : ((k : Int) == 0) = false := beq_eq_false_iff_ne.2 (by omega)
     have hk1 : 1 ≤ (k : Int) := by omega
     have hcp := hs.cell (i := k - 1) (by omega)
     rw [hP] at hcp
     have hk2 : ((k : Int) == 255) = false := beq_eq_false_iff_ne.2 (by omega)
     have hk3 : (k : Int) ≤ 254 := by omega
     have hcn := hs.cell (i := k + 1) (by omega)
     rw [hN] at hcn
     have HPN := Lib.hid (HP true true (by simp [hP, hK0]) (by simp [hN, hK2]))
     clear HP hK0 hK2 hP 
     have HN := Lib.hid hN
     clear hN
     have hm1 := Lib.hid (show (pairsT f k).length + 1 ≤ maxLen by unfold maxLen; omega)
     have hm2 := Lib.hid (show (pairsT f k).length + 1 + 1 ≤ maxLen by unfold maxLen; omega)
     have hn1 := Lib.hid (show ((pairsT f k).length + 1) * 1 ≤ 140737488355328 by omega)
     have hn2 := Lib.hid (show ((pairsT f k).length + 1 + 1) * 1 ≤ 140737488355328 by omega)
     have hb1 := Lib.hid (show w.heap.size + 1 ≤ wr.heap.size from hs.lt)
     go_wp2_with (first
      | (
        at_builtin
        refine wpList_append_rd rfl (.tmp 22) (.tmp 25) 85 rfl (w.heap.size + 1) 5 i0 _ 1 1 und_bytes hi hz0 hz1 hz2 rfl (by decide) _ _ _ rfl (hown.alloc _) (some ⟨wr.heap.size, 0, none⟩) 1 _ [.int .u8 k] rfl (Rd.byte rfl 5 _) (one1 _) hm1.out hn1.out (Nat.le_trans hb1.out (Nat.le_of_lt (by simp))) ?_
        intro v1 w1 hown1 hgr1 hat1
        have hl1 := hown.lt
        have gg1 : Gr w w1 := Gr.grown (Gr.alloc hgr _) hgr1 (fun j hj => by have := (hl1 j hj).1; omega)
        have ss1 : SetAt w1 w.heap.size f := (hs.gr (Gr.alloc (Gr.refl _) _)).grown hgr1 (fun e => by have := (hl1 _ e.symm).1; omega)
        have hb2 := Lib.hid (Nat.le_trans hb1.out (Nat.le_trans (Nat.le_of_lt (by simp)) hgr1.size))
        have hcell1 := ss1.cell hlt
        rw [hB.out] at hcell1
        have hcn1 := ss1.cell (i := k + 1) (by omega)
        rw [HN.out] at hcn1
        clear hgr1 hat1 hl1 hown hs hgr)
      | (
        at_builtin
        refine wpList_append_rd rfl (.tmp 41) (.tmp 44) 85 rfl (w.heap.size + 1) 5 i0 _ 1 1 und_bytes hi hz0 hz1 hz2 rfl (by decide) _ _ _ rfl (hown1.alloc _) (some ⟨w1.heap.size, 0, none⟩) 1 _ [.int .u8 k] rfl (Rd.byte rfl 5 _) (one1 _) hm2.out hn2.out (Nat.le_trans hb2.out (Nat.le_of_lt (by simp))) ?_
        intro v2 w2 hown2 hgr2 hat2
        have hl2 := hown1.lt
        have gg2 : Gr w w2 := Gr.grown (Gr.alloc gg1 _) hgr2 (fun j hj => by have := (hl2 j hj).1; omega)
        have ss2 : SetAt w2 w.heap.size f := (ss1.gr (Gr.alloc (Gr.refl _) _)).grown hgr2 (fun e => by have := (hl2 _ e.symm).1; omega)
        have hb3 := Lib.hid (Nat.le_trans hb2.out (Nat.le_trans (Nat.le_of_lt (by simp)) hgr2.size))
        have hcell2 := ss2.cell hlt
        rw [hB.out] at hcell2
        clear hgr2 hat2 hl2 hown1 ss1 gg1))
     go_roundw
     case rel => exact ⟨k + 1, by omega, by go_num, gg2, ss2, by rw [HPN.out]; simpa only [cond_true, cond_false, List.length_append, List.length_cons, List.length_nil, List.append_nil, List.nil_append, bcells_append, byteCell hlt, List.append_assoc, Nat.zero_add, Nat.add_zero, Nat.add_assoc] using hown2⟩
     case measure => simp [intOf]; omega
    ·
     have hk0 : ((k : Int) == 0) = false := beq_eq_false_iff_ne.2 (by omega)
     have hk1 : 1 ≤ (k : Int) := by omega
     have hcp := hs.cell (i := k - 1) (by omega)
     rw [hP] at hcp
     have hk2 : ((k : Int) == 255) = false := beq_eq_false_iff_ne.2 (by omega)
     have hk3 : (k : Int) ≤ 254 := by omega
     have hcn := hs.cell (i := k + 1) (by omega)
     rw [hN] at hcn
     have HPN := Lib.hid (HP true false (by simp [hP, hK0]) (by simp [hN, hK2]))
     clear HP hK0 hK2 hP 
     have HN := Lib.hid hN
     clear hN
     have hm1 := Lib.hid (show (pairsT f k).length + 1 ≤ maxLen by unfold maxLen; omega)
     have hm2 := Lib.hid (show (pairsT f k).length + 1 + 1 ≤ maxLen by unfold maxLen; omega)
     have hn1 := Lib.hid (show ((pairsT f k).length + 1) * 1 ≤ 140737488355328 by omega)
     have hn2 := Lib.hid (show ((pairsT f k).length + 1 + 1) * 1 ≤ 140737488355328 by omega)
     have hb1 := Lib.hid (show w.heap.size + 1 ≤ wr.heap.size from hs.lt)
     go_wp2_with (first
      | (
        at_builtin
        refine wpList_append_rd rfl (.tmp 22) (.tmp 25) 85 rfl (w.heap.size + 1) 5 i0 _ 1 1 und_bytes hi hz0 hz1 hz2 rfl (by decide) _ _ _ rfl (hown.alloc _) (some ⟨wr.heap.size, 0, none⟩) 1 _ [.int .u8 k] rfl (Rd.byte rfl 5 _) (one1 _) hm1.out hn1.out (Nat.le_trans hb1.out (Nat.le_of_lt (by simp))) ?_
        intro v1 w1 hown1 hgr1 hat1
        have hl1 := hown.lt
        have gg1 : Gr w w1 := Gr.grown (Gr.alloc hgr _) hgr1 (fun j hj => by have := (hl1 j hj).1; omega)
        have ss1 : SetAt w1 w.heap.size f := (hs.gr (Gr.alloc (Gr.refl _) _)).grown hgr1 (fun e => by have := (hl1 _ e.symm).1; omega)
        have hb2 := Lib.hid (Nat.le_trans hb1.out (Nat.le_trans (Nat.le_of_lt (by simp)) hgr1.size))
        have hcell1 := ss1.cell hlt
        rw [hB.out] at hcell1
        have hcn1 := ss1.cell (i := k + 1) (by omega)
        rw [HN.out] at hcn1
        clear hgr1 hat1 hl1 hown hs hgr))
     go_roundw
     case rel => exact ⟨k + 1, by omega, by go_num, gg1, ss1, by rw [HPN.out]; simpa only [cond_true, cond_false, List.length_append, List.length_cons, List.length_nil, List.append_nil, List.nil_append, bcells_append, byteCell hlt, List.append_assoc, Nat.zero_add, Nat.add_zero, Nat.add_assoc] using hown1⟩
     case measure => simp [intOf]; omega
   ·
    by_cases hK2 : k = 255
    ·
     have hk0 : ((k : Int) == 0) = false := beq_eq_false_iff_ne.2 (by omega)
     have hk1 : 1 ≤ (k : Int) := by omega
     have hcp := hs.cell (i := k - 1) (by omega)
     rw [hP] at hcp
     have hk2 : ((k : Int) == 255) = true := beq_iff_eq.2 (by omega)
     have HPN := Lib.hid (HP false true (by simp [hP, hK0]) (by simp [hK2]))
     clear HP hK0 hK2 hP 
     have hm1 := Lib.hid (show (pairsT f k).length + 1 ≤ maxLen by unfold maxLen; omega)
     have hm2 := Lib.hid (show (pairsT f k).length + 1 + 1 ≤ maxLen by unfold maxLen; omega)
     have hn1 := Lib.hid (show ((pairsT f k).length + 1) * 1 ≤ 140737488355328 by omega)
     have hn2 := Lib.hid (show ((pairsT f k).length + 1 + 1) * 1 ≤ 140737488355328 by omega)
     have hb1 := Lib.hid (show w.heap.size + 1 ≤ wr.heap.size from hs.lt)
     have hb2 := hb1
     have hm2 := hm1
     have hn2 := hn1
     go_wp2_with (first
      | (
        at_builtin
        refine wpList_append_rd rfl (.tmp 41) (.tmp 44) 85 rfl (w.heap.size + 1) 5 i0 _ 1 1 und_bytes hi hz0 hz1 hz2 rfl (by decide) _ _ _ rfl (hown.alloc _) (some ⟨wr.heap.size, 0, none⟩) 1 _ [.int .u8 k] rfl (Rd.byte rfl 5 _) (one1 _) hm2.out hn2.out (Nat.le_trans hb2.out (Nat.le_of_lt (by simp))) ?_
        intro v2 w2 hown2 hgr2 hat2
        have hl2 := hown.lt
        have gg2 : Gr w w2 := Gr.grown (Gr.alloc hgr _) hgr2 (fun j hj => by have := (hl2 j hj).1; omega)
        have ss2 : SetAt w2 w.heap.size f := (hs.gr (Gr.alloc (Gr.refl _) _)).grown hgr2 (fun e => by have := (hl2 _ e.symm).1; omega)
        have hb3 := Lib.hid (Nat.le_trans hb2.out (Nat.le_trans (Nat.le_of_lt (by simp)) hgr2.size))
        have hcell2 := ss2.cell hlt
        rw [hB.out] at hcell2
        clear hgr2 hat2 hl2 hown hs hgr))
     go_roundw
     case rel => exact ⟨k + 1, by omega, by go_num, gg2, ss2, by rw [HPN.out]; simpa only [cond_true, cond_false, List.length_append, List.length_cons, List.length_nil, List.append_nil, List.nil_append, bcells_append, byteCell hlt, List.append_assoc, Nat.zero_add, Nat.add_zero, Nat.add_assoc] using hown2⟩
     case measure => simp [intOf]; omega
    cases hN : f (k + 1)
    ·
     have hk0 : ((k : Int) == 0) = false := beq_eq_false_iff_ne.2 (by omega)
     have hk1 : 1 ≤ (k : Int) := by omega
     have hcp := hs.cell (i := k - 1) (by omega)
     rw [hP] at hcp
     have hk2 : ((k : Int) == 255) = false := beq_eq_false_iff_ne.2 (by omega)
     have hk3 : (k : Int) ≤ 254 := by omega
     have hcn := hs.cell (i := k + 1) (by omega)
     rw [hN] at hcn
     have HPN := Lib.hid (HP false true (by simp [hP, hK0]) (by simp [hN, hK2]))
     clear HP hK0 hK2 hP 
     have HN := Lib.hid hN
     clear hN
     have hm1 := Lib.hid (show (pairsT f k).length + 1 ≤ maxLen by unfold maxLen; omega)
     have hm2 := Lib.hid (show (pairsT f k).length + 1 + 1 ≤ maxLen by unfold maxLen; omega)
     have hn1 := Lib.hid (show ((pairsT f k).length + 1) * 1 ≤ 140737488355328 by omega)
     have hn2 := Lib.hid (show ((pairsT f k).length + 1 + 1) * 1 ≤ 140737488355328 by omega)
     have hb1 := Lib.hid (show w.heap.size + 1 ≤ wr.heap.size from hs.lt)
     have hb2 := hb1
     have hm2 := hm1
     have hn2 := hn1
     go_wp2_with (first
      | (
        at_builtin
        refine wpList_append_rd rfl (.tmp 41) (.tmp 44) 85 rfl (w.heap.size + 1) 5 i0 _ 1 1 und_bytes hi hz0 hz1 hz2 rfl (by decide) _ _ _ rfl (hown.alloc _) (some ⟨wr.heap.size, 0, none⟩) 1 _ [.int .u8 k] rfl (Rd.byte rfl 5 _) (one1 _) hm2.out hn2.out (Nat.le_trans hb2.out (Nat.le_of_lt (by simp))) ?_
        intro v2 w2 hown2 hgr2 hat2
        have hl2 := hown.lt
        have gg2 : Gr w w2 := Gr.grown (Gr.alloc hgr _) hgr2 (fun j hj => by have := (hl2 j hj).1; omega)
        have ss2 : SetAt w2 w.heap.size f := (hs.gr (Gr.alloc (Gr.refl _) _)).grown hgr2 (fun e => by have := (hl2 _ e.symm).1; omega)
        have hb3 := Lib.hid (Nat.le_trans hb2.out (Nat.le_trans (Nat.le_of_lt (by simp)) hgr2.size))
        have hcell2 := ss2.cell hlt
        rw [hB.out] at hcell2
        clear hgr2 hat2 hl2 hown hs hgr))
     go_roundw
     case rel => exact ⟨k + 1, by omega, by go_num, gg2, ss2, by rw [HPN.out]; simpa only [cond_true, cond_false, List.length_append, List.length_cons, List.length_nil, List.append_nil, List.nil_append, bcells_append, byteCell hlt, List.append_assoc, Nat.zero_add, Nat.add_zero, Nat.add_assoc] using hown2⟩
     case measure => simp [intOf]; omega
    ·
     have hk0 : ((k : Int) == 0) = false := beq_eq_false_iff_ne.2 (by omega)
     have hk1 : 1 ≤ (k : Int) := by omega
     have hcp := hs.cell (i := k - 1) (by omega)
     rw [hP] at hcp
     have hk2 : ((k : Int) == 255) = false := beq_eq_false_iff_ne.2 (by omega)
     have hk3 : (k : Int) ≤ 254 := by omega
     have hcn := hs.cell (i := k + 1) (by omega)
     rw [hN] at hcn
     have HPN := Lib.hid (HP false false (by simp [hP, hK0]) (by simp [hN, hK2]))
     clear HP hK0 hK2 hP 
     have HN := Lib.hid hN
     clear hN
     go_wp2
     go_roundw
     case rel => exact ⟨k + 1, by omega, by go_num, hgr, hs, by rw [HPN.out]; simpa only [cond_true, cond_false, List.length_append, List.length_cons, List.length_nil, List.append_nil, List.nil_append, bcells_append, byteCell hlt, List.append_assoc, Nat.zero_add, Nat.add_zero, Nat.add_assoc] using hown⟩
     case measure => simp [intOf]; omega
  ·
   have hk' : k = 256 := by omega
   subst hk'
   have hconv := conv_own und_bytes und_u8 und_str hown
   clear hown hle
   go_wp2
   go_ret
   exact ⟨rfl, hgr⟩
end Go.Proofs.YtjapddfnpmlifaaGreatDoor
