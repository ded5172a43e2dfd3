/- The contract of the reference's Known. · The contract of the reference's Add: the loop over a slice of values. -/
import Derived.Test.YtbdichmkgcngbaaGreatRunFxBase
import Derived.Test.YtbdichmkgcngbaaGreatRunFxTwo
import Derived.Deep.RegionHeld3
import Derived.StillTailTactics
import Derived.Outline
namespace Go.Proofs.YtbdichmkgcngbaaGreat
open Go.RowKit

set_option maxRecDepth 100000 in
set_option maxHeartbeats 1600000 in
theorem rknown_vals_any (A : Option Addr) (c : Nat) (l : List Vl) (w : World) (hl : l.length ≤ 1000000) (hr : Rv w A l) :
  Calls Tryz.prog 67 #[.slice A l.length c] w (RetV (kn l) w) := by
 have hl' : (l.length : Int) ≤ 1000000 := by omega
 obtain ⟨i0, hi, hz0, hz1, hz2⟩ := info_parts info_val
 go_enter Tryz.func67, Tryz.ntmps67
 go_wp2
 go_loopw [3, 4] (fun v i wr => ∃ k : Nat, k ≤ l.length ∧ i = .int .i64 k ∧ Gr w wr ∧ wr.ownsRow w.heap.size 23 2 v (kn (l.take k)).length (vcells (kn (l.take k))))
  (fun _ i _ => l.length - (intOf i).toNat)
 case atStart => exact ⟨0, Nat.zero_le _, rfl, Gr.refl _, World.ownsRow_nil _ _ _ _⟩
 case round =>
  obtain ⟨k, hk, rfl, hgr, hown⟩ := hrel
  by_cases hlt : k < l.length
  ·
   have hra := hr.gr hgr
   obtain ⟨ad, rfl, hb, hx0, hx1⟩ := hra.at hlt
   have Ht := Lib.hid (kn_take hlt)
   have hkl := kn_take_len l k
   cases hkn : knB l[k]
   ·
    rw [hkn] at Ht
    go_wp2_with fail
    refine (rkn_any l[k] _).mono ?_; rintro e w1 ⟨rfl, hg⟩
    have hown1 := own_gr hown hg
    go_wp2
    go_roundw
    case rel => exact ⟨k + 1, by omega, by go_num, (by repeat (first | exact Gr.refl _ | refine Gr.alloc ?_ _ | refine Gr.drew ?_ | refine Gr.setCell ?_ (by first | (simp; done) | (simp; omega) | omega) _ | refine Gr.trans ?_ (by assumption))), by rw [Ht.out]; simpa using hown1⟩
    case measure => simp [intOf]; omega
   ·
    rw [hkn] at Ht
    go_wp2_with fail
    refine (rkn_any l[k] _).mono ?_; rintro e w1 ⟨rfl, hg⟩
    have hown1 := own_gr hown hg
    have hgw1 : Gr w w1 := (by repeat (first | exact Gr.refl _ | refine Gr.alloc ?_ _ | refine Gr.drew ?_ | refine Gr.setCell ?_ (by first | (simp; done) | (simp; omega) | omega) _ | refine Gr.trans ?_ (by assumption)))
    have hy0 := (hg.cell (p := ad.add (k * 2)) (by rw [add_blk]; exact hb)).trans hx0
    have hy1 := (hg.cell (p := ⟨(ad.add (k * 2)).block, (ad.add (k * 2)).off + 1, none⟩) (by rw [add_blk]; exact hb)).trans hx1
    have z2 := hgw1.size
    have hrx := Rv.new (W := w1) rfl 23 [l[k]]
    have hv0 := (hown1.alloc (.cells (vcells [l[k]]).toArray 23))
    have hvl := hown1.lt
    clear hx0 hx1
    go_wp2_with (at_builtin; refine wpList_append_rd rfl (.tmp 16) (.tmp 21) 28 rfl w.heap.size 23 i0 _ 2 16 Tryz.underlying28 hi hz0 hz1 hz2 rfl (by decide) _ _ _ rfl hv0 (some ⟨w1.heap.size, 0, none⟩) 1 _ (vcells [l[k]]) rfl hrx (vcells_one _) (by unfold maxLen; omega) (by omega) (by simp; omega) ?_; intro v' w2 hown2 hgr2 hat2)
    have hg2 : Gr w w2 := Gr.grown (Gr.alloc hgw1 _) hgr2 (fun k hk => (hvl k hk).1)
    clear hv0 hvl hgr2 hat2 hrx
    go_wp2
    go_roundw
    case rel => exact ⟨k + 1, by omega, by go_num, hg2, by rw [Ht.out]; simpa [vcells_append] using hown2⟩
    case measure => simp [intOf]; omega
  ·
   have hkk : k = l.length := by omega
   subst hkk
   rw [List.take_length] at hown
   obtain ⟨A', c', hv⟩ := own_form hown
   subst hv
   go_wp2
   go_ret
   exact ⟨A', c', rfl, Rd.own hown, hgr⟩
end Go.Proofs.YtbdichmkgcngbaaGreat
namespace Go.Proofs.YtbdichmkgcngbaaGreat
open Go.RowKit

set_option maxRecDepth 100000 in
set_option maxHeartbeats 400000 in
theorem radd_any (A : Option Addr) (c : Nat) (l : List Vl) (w : World) (hl : l.length ≤ maxLen) (hr : Rv w A l) :
  Calls Tryz.prog 68 #[.slice A l.length c] w fun e w' => e = .returned (.agg #[.bool (addV l).ok, .int .i64 (addV l).n]) ∧ Gr w w' := by
 unfold maxLen at hl
 go_enter Tryz.func68, Tryz.ntmps68
 go_wp2_with fail
 refine (rof_any 0 _).mono ?_; rintro e w1 ⟨rfl, hg⟩; obtain ⟨hc, hf⟩ := hg.cells; have hz := hg.size; (try simp at hz); have z0 : w.heap.size < w1.heap.size := (by omega)
 go_wp2
 go_loopw [4] (fun i wr => ∃ k : Nat, k ≤ l.length ∧ i = .int .i64 k ∧ Gr w wr ∧ w1.heap.size < wr.heap.size ∧
   wr.cell? ⟨w.heap.size, 0, none⟩ = some (.bool false) ∧ wr.cell? ⟨w.heap.size, 1, none⟩ = some (.int .i64 0) ∧ wr.frozen? ⟨w.heap.size, 0, none⟩ = false ∧ wr.frozen? ⟨w.heap.size, 1, none⟩ = false ∧
   wr.cell? ⟨w1.heap.size, 0, none⟩ = some (.bool (addV (l.take k)).ok) ∧ wr.cell? ⟨w1.heap.size, 1, none⟩ = some (.int .i64 (addV (l.take k)).n) ∧
   wr.frozen? ⟨w1.heap.size, 0, none⟩ = false ∧ wr.frozen? ⟨w1.heap.size, 1, none⟩ = false)
  (fun i _ => l.length - (intOf i).toNat)
 case atStart => exact ⟨0, Nat.zero_le _, rfl, (by repeat (first | exact Gr.refl _ | refine Gr.alloc ?_ _ | refine Gr.drew ?_ | refine Gr.setCell ?_ (by first | (simp; done) | (simp; omega) | omega) _ | refine Gr.trans ?_ (by assumption))), by simp, by go_simp, by go_simp, by go_simp, by go_simp, by go_simp; rfl, by go_simp; rfl, by go_simp, by go_simp⟩
 case round =>
  obtain ⟨k, hk, rfl, hgr, hzr, r0, r1, rf0, rf1, a0, a1, af0, af1⟩ := hrel
  by_cases hlt : k < l.length
  ·
   obtain ⟨ad, rfl, hb, hx0, hx1⟩ := (hr.gr hgr).at hlt
   have ht := addV_take hlt
   have Ht := Lib.hid ht; clear ht
   go_wp2
   go_still_tail 5, (by kernel_rfl)
   change wpList _ _ _ _ _ wr.drew
   go_wp2_with fail
   refine (plus_any (addV (l.take k)) l[k] _).mono ?_; rintro e w2 ⟨rfl, hg2⟩; have hc2 : ∀ b o, b < wr.heap.size → w2.cell? ⟨b, o, none⟩ = wr.cell? ⟨b, o, none⟩ := hg2.cells.1; have hf2 : ∀ b o, b < wr.heap.size → w2.frozen? ⟨b, o, none⟩ = wr.frozen? ⟨b, o, none⟩ := hg2.cells.2; have hz2 : wr.heap.size ≤ w2.heap.size := hg2.size
   have y0 : w.heap.size < wr.heap.size := (by omega)
   have y2 : w1.heap.size < w2.heap.size := (by omega)
   go_wp2
   go_roundw
   case rel =>
    refine ⟨k + 1, by omega, by go_num, (by repeat (first | exact Gr.refl _ | refine Gr.alloc ?_ _ | refine Gr.drew ?_ | refine Gr.setCell ?_ (by first | (simp; done) | (simp; omega) | omega) _ | refine Gr.trans ?_ (by assumption))), by simp; omega, by go_simp, by go_simp, by go_simp, by go_simp, ?_, ?_, by go_simp, by go_simp⟩
    ·
     rw [Ht.out]; go_simp
    ·
     rw [Ht.out]; go_simp
   case measure => simp [intOf]; omega
  ·
   have hkk : k = l.length := by omega
   subst hkk
   rw [List.take_length] at a0 a1
   go_wp2
   exact bodyPost_ret (v := .agg #[.bool (addV l).ok, .int .i64 (addV l).n]) (by simp [results, Tryz.results68, go_sem, *]) rfl ⟨rfl, (by repeat (first | exact Gr.refl _ | refine Gr.alloc ?_ _ | refine Gr.drew ?_ | refine Gr.setCell ?_ (by first | (simp; done) | (simp; omega) | omega) _ | refine Gr.trans ?_ (by assumption)))⟩
end Go.Proofs.YtbdichmkgcngbaaGreat
