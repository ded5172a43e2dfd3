/- Contracts of Known, of the program's package agg and of the reference: those that are not none. -/
import Derived.Test.YtoikpkgogncdhaaFxWalk
import Derived.Test.YtoikpkgogncdhaaAppend
import Derived.Lib.Hide
namespace Go.Proofs.Ytoikpkgogncdhaa
open Go.RowKit

def kn (l : List Vl) : List Vl := l.filter knB
theorem kn_take {l : List Vl} {k : Nat} (h : k < l.length) : kn (l.take (k + 1)) = kn (l.take k) ++ (if knB l[k] = true then [l[k]] else []) := by
  unfold kn
  rw [List.take_succ_eq_append_getElem h, List.filter_append]
  simp [List.filter_cons]
theorem kn_len (l : List Vl) : (kn l).length ≤ l.length := List.length_filter_le _ _
theorem kn_take_len (l : List Vl) (k : Nat) : (kn (l.take k)).length ≤ l.length := Nat.le_trans (kn_len _) (List.length_take_le' k l)
theorem info_val : (Try.prog.info? 34).map (fun i => (i.zero, i.size, i.bytes)) = some (some (.agg #[.bool false, .int .i64 0]), 2, 16) := by kernel_rfl

/-- a slice of values is handed back. -/
def RetV (l : List Vl) (w : World) (e : Ending) (w' : World) : Prop := ∃ A c, e = .returned (.slice A l.length c) ∧ Rv w' A l ∧ Gr w w'

/-- a new array that holds values. -/
theorem Rv.new {W : World} {B : Nat} (hB : B = W.heap.size) (T : TypeId) (l : List Vl) : Rv (W.alloc (.cells (vcells l).toArray T)) (some ⟨B, 0, none⟩) l := by
  subst hB
  refine ⟨vcells_length l, fun _ => ⟨_, rfl, by simp, fun j u hu => ?_⟩⟩
  have e : (⟨W.heap.size, 0, none⟩ : Addr).add j = ⟨W.heap.size, j, none⟩ := by
    unfold Addr.add; split
    · rename_i h; subst h; rfl
    · rw [Nat.zero_add]
  rw [e]
  exact (cell_of_row _ _ _ _ _ _ (heap_alloc_new W _)).trans (by simpa using hu)

/-- an owned row behind what leaves all old blocks alone. -/
theorem own_gr {w w' : World} {base : Nat} {e : TypeId} {size n : Nat} {v : Value} {xs : List Value} (h : w.ownsRow base e size v n xs) (g : Gr w w') : w'.ownsRow base e size v n xs := by
  obtain ⟨h1, ⟨hv, h0⟩ | ⟨g', cap, cur, hv, hb, hh, h2⟩⟩ := h
  · exact ⟨h1, .inl ⟨hv, h0⟩⟩
  · refine ⟨h1, .inr ⟨g', cap, cur, hv, hb, ?_, h2⟩⟩
    have hlt : g' < w.heap.size := by
      rcases Nat.lt_or_ge g' w.heap.size with hlt | hge
      · exact hlt
      · rw [Array.getElem?_eq_none hge] at hh; cases hh
    exact (Below.block g g' hlt).trans hh

set_option maxRecDepth 100000 in
set_option maxHeartbeats 1600000 in
theorem known_vals_any (A : Option Addr) (c : Nat) (l : List Vl) (w : World) (hl : l.length ≤ 1000000) (hr : Rv w A l) :
    Calls Try.prog 52 #[.slice A l.length c] w (RetV (kn l) w) := by
  have hl' : (l.length : Int) ≤ 1000000 := by omega
  obtain ⟨i0, hi, hz0, hz1, hz2⟩ := info_parts info_val
  go_enter Try.func52, Try.ntmps52
  go_wp2
  go_loopw [3, 8] (fun v i wr => ∃ k : Nat, k ≤ l.length ∧ i = .int .i64 k ∧ Gr w wr ∧ wr.ownsRow w.heap.size 34 2 v (kn (l.take k)).length (vcells (kn (l.take k))))
    (fun _ i _ => l.length - (intOf i).toNat)
  case atStart => exact ⟨0, Nat.zero_le _, rfl, Gr.refl _, World.ownsRow_nil _ _ _ _⟩
  case round =>
    obtain ⟨k, hk, rfl, hgr, hown⟩ := hrel
    by_cases hlt : k < l.length
    · obtain ⟨ad, rfl, hb, hx0, hx1⟩ := (hr.gr hgr).at hlt
      have Ht := Lib.hid (kn_take hlt)
      have hkl := kn_take_len l k
      cases hok : l[k].ok
      · have hkn : knB l[k] = false := by simp [knB, hok]
        rw [hkn] at Ht
        go_wp2
        go_roundw
        case rel => exact ⟨k + 1, by omega, by go_num, (by repeat (first | exact Gr.refl _ | refine Gr.alloc ?_ _ | refine Gr.drew ?_ | refine Gr.setCell ?_ (by first | (simp; done) | (simp; omega) | omega) _ | refine Gr.trans ?_ (by assumption))), by rw [Ht.out]; simpa using hown.alloc _⟩
        case measure => simp [intOf]; omega
      · cases hkn : knB l[k]
        · have hib : isB ⟨true, l[k].n⟩ = false := by
            have : knB l[k] = (l[k].ok && isB ⟨l[k].ok, l[k].n⟩) := rfl
            rw [hok, Bool.true_and] at this; rw [← this]; exact hkn
          rw [hkn] at Ht
          go_wp2_with fail
          refine (is_any true l[k].n _).mono ?_; rintro e w1 ⟨rfl, hg⟩; obtain ⟨hc, hf⟩ := hg.cells
          have hown1 := own_gr (hown.alloc _) hg
          clear hkn
          go_wp2
          go_roundw
          case rel => exact ⟨k + 1, by omega, by go_num, (by repeat (first | exact Gr.refl _ | refine Gr.alloc ?_ _ | refine Gr.drew ?_ | refine Gr.setCell ?_ (by first | (simp; done) | (simp; omega) | omega) _ | refine Gr.trans ?_ (by assumption))), by rw [Ht.out]; simpa using hown1⟩
          case measure => simp [intOf]; omega
        · have hib : isB ⟨true, l[k].n⟩ = true := by
            have : knB l[k] = (l[k].ok && isB ⟨l[k].ok, l[k].n⟩) := rfl
            rw [hok, Bool.true_and] at this; rw [← this]; exact hkn
          rw [hkn] at Ht
          go_wp2_with fail
          refine (is_any true l[k].n _).mono ?_; rintro e w1 ⟨rfl, hg⟩; obtain ⟨hc, hf⟩ := hg.cells
          have z1 := hg.size
          simp at z1
          have hown1 := own_gr (hown.alloc _) hg
          have hgw1 : Gr w w1 := (by repeat (first | exact Gr.refl _ | refine Gr.alloc ?_ _ | refine Gr.drew ?_ | refine Gr.setCell ?_ (by first | (simp; done) | (simp; omega) | omega) _ | refine Gr.trans ?_ (by assumption)))
          have z2 := hgw1.size
          have hrx := Rv.new (W := w1) rfl 34 [l[k]]
          have hv0 := (hown1.alloc (.cells (vcells [l[k]]).toArray 34))
          have hvl := hown1.lt
          clear hkn
          go_wp2_with (at_builtin; refine wpList_append_rd rfl (.tmp 18) (.tmp 20) 22 rfl w.heap.size 34 i0 _ 2 16 Try.underlying22 hi hz0 hz1 hz2 rfl (by decide) _ _ _ rfl (by rw [← hok]; exact hv0) (some ⟨w1.heap.size, 0, none⟩) 1 _ (vcells [l[k]]) rfl (by rw [← hok]; exact hrx) (vcells_one _) (by unfold maxLen; omega) (by omega) (by simp; omega) ?_; intro v' w2 hown2 hgr2 hat2)
          have hg2 : Gr w w2 := Gr.grown (Gr.alloc hgw1 _) hgr2 (fun k hk => (hvl k hk).1)
          clear hv0 hvl hgr2 hat2 hrx
          go_wp2
          go_roundw
          case rel => exact ⟨k + 1, by omega, by go_num, hg2, by rw [Ht.out]; simpa [vcells_append] using hown2⟩
          case measure => simp [intOf]; omega
    · have hkk : k = l.length := by omega
      subst hkk
      rw [List.take_length] at hown
      obtain ⟨A', c', hv⟩ := own_form hown
      subst hv
      go_wp2
      go_ret
      exact ⟨A', c', rfl, Rd.own hown, hgr⟩
end Go.Proofs.Ytoikpkgogncdhaa
