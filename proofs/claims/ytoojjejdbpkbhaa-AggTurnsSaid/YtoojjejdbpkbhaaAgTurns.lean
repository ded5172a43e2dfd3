/- The law AggTurns of chapter 6, walked. -/
import Derived.Test.YtoojjejdbpkbhaaAgPlain
import Derived.Test.YtoojjejdbpkbhaaAgLaw
namespace Go.Proofs.Ytoojjejdbpkbhaa
open Go.RowKit

theorem rev_drop {l : List Vl} {j : Nat} (h : j < l.length) : (l.drop j).reverse = (l.drop (j + 1)).reverse ++ [l[j]] := by
  rw [List.drop_eq_getElem_cons h, List.reverse_cons]

set_option maxRecDepth 100000 in
set_option maxHeartbeats 1600000 in
theorem law_AggTurns (A : Option Addr) (c : Nat) (l : List Vl) (w : World) (_hl : l.length ≤ maxLen) (hr : Rv w A l) :
    Calls Try.prog 6 #[.slice A l.length c] w fun e w' => e = .returned (.bool true) ∧ Gr w w' := by
  by_cases h200 : (200 : Int) < (l.length : Int)
  · go_enter Try.func6, Try.ntmps6
    go_wp2
    go_ret
    exact ⟨rfl, Gr.refl _⟩
  obtain ⟨i0, hi, hz0, hz1, hz2⟩ := info_parts info_val
  have hlm : l.length ≤ 1000000 := by omega
  have hl2 : l.length ≤ 200 := by omega
  go_enter Try.func6, Try.ntmps6
  go_wp2
  go_loopw [3, 4] (fun v i wr => ∃ j : Nat, j ≤ l.length ∧ i = .int .i64 ((j : Int) - 1) ∧ Gr w wr ∧ wr.ownsRow w.heap.size 24 2 v (l.length - j) (vcells (l.drop j).reverse) ∧
      ∀ x ∈ l.drop j, -1125899906842624 ≤ x.n ∧ x.n ≤ 1125899906842624)
    (fun _ i _ => (intOf i + 1).toNat)
  case atStart => exact ⟨l.length, Nat.le_refl _, rfl, Gr.refl _, by rw [List.drop_length, Nat.sub_self]; exact World.ownsRow_nil _ _ _ _, by rw [List.drop_length]; intro x hx; cases hx⟩
  case round =>
    obtain ⟨j, hj, rfl, hgr, hown, hall⟩ := hrel
    have HALL := Lib.hid hall; clear hall
    have hgz := hgr.size
    rcases Nat.eq_zero_or_pos j with h0 | h0
    · subst h0
      rw [show (((0 : Nat) : Int) - 1) = -1 from rfl]
      rw [Nat.sub_zero, List.drop_zero] at hown
      have HAL : RowKit.Hid (∀ x ∈ l, -1125899906842624 ≤ x.n ∧ x.n ≤ 1125899906842624) := by have := HALL.out; rw [List.drop_zero] at this; exact this
      clear HALL
      obtain ⟨A', c', hv⟩ := own_form hown
      subst hv
      have hra : Rv wr A' l.reverse := by have := Rd.own hown; unfold Rv; rw [List.length_reverse]; exact this
      have hrb : Rv wr A l := hr.gr hgr
      clear hown
      generalize hwo : wr = wo at *
      clear hwo
      have hrl : l.reverse.length ≤ 1000000 := by rw [List.length_reverse]; exact hlm
      go_wp2
      go_loopw [5] (fun i w1 => ∃ k : Int, 1 ≤ k ∧ k ≤ 6 ∧ i = .int .i64 k ∧ Gr wo w1) (fun i _ => (6 - intOf i).toNat)
      case atStart => exact ⟨1, by omega, by omega, rfl, Gr.refl _⟩
      case round =>
        obtain ⟨k, hk1, hk6, rfl, hg1⟩ := hrel
        by_cases hlt : k ≤ 5
        · by_cases k3 : k = 3
          · subst k3
            go_wp2
            go_roundw
            case rel => exact ⟨4, by omega, by omega, by go_num, hg1⟩
            case measure => simp [intOf]
          · have hrev := agg_rev k l k3 hl2 HAL.out
            have e3 : (k == 3) = false := beq_eq_false_iff_ne.2 k3
            have e3' : (k != 3) = true := bne_iff_ne.2 k3
            have HREV := Lib.hid hrev; clear hrev
            clear k3
            go_wp2_with fail
            refine (agg_of_any k A c l _ hlm (hrb.gr hg1)).mono ?_; rintro e w2 ⟨rfl, hg2⟩
            have hg3 : Gr wo w2 := Gr.trans hg1 hg2
            go_wp2_with fail
            have Q := agg_of_any k A' c' l.reverse w2 hrl (hra.gr hg3)
            rw [List.length_reverse, HREV.out] at Q
            refine Q.mono ?_; clear Q; rintro e w3 ⟨rfl, hg4⟩
            have hg5 : Gr wo w3 := Gr.trans hg3 hg4
            clear hg1 hg2 hg3 hg4
            go_wp2
            go_roundw
            case rel => exact ⟨k + 1, by omega, by omega, by go_num, hg5⟩
            case measure => simp [intOf]; omega
        · obtain rfl : k = 6 := by omega
          go_wp2_with fail
          refine (known6_any _).mono ?_; rintro e w2 ⟨rfl, hg2⟩
          go_wp2
          go_ret
          exact ⟨rfl, Gr.trans hgr (Gr.trans hg1 hg2)⟩
    · obtain ⟨q, rfl⟩ : ∃ q, j = q + 1 := ⟨j - 1, by omega⟩
      have hq : q < l.length := by omega
      have hqi : (((q + 1 : Nat) : Int) - 1) = (q : Int) := by omega
      rw [hqi]
      have hlen : l.length - (q + 1) + 1 = l.length - q := by omega
      have HLEN := Lib.hid hlen; clear hlen
      have HT := Lib.hid (rev_drop hq)
      have hra := hr.gr hgr
      obtain ⟨ad, rfl, hb, hx0, hx1⟩ := hra.at hq
      have hown1 := hown.alloc (.cells (vcells [l[q]]).toArray 24)
      have hvl := hown1.lt
      have hrx := Rv.new (W := wr) rfl 24 [l[q]]
      clear hqi
      by_cases b1 : 1125899906842624 < l[q].n
      · go_wp2_with (at_builtin; refine wpList_append_rd rfl (.tmp 16) (.tmp 21) 22 rfl w.heap.size 24 i0 _ 2 16 Try.underlying22 hi hz0 hz1 hz2 rfl (by decide) _ _ _ rfl hown1 (some ⟨wr.heap.size, 0, none⟩) 1 _ (vcells [l[q]]) rfl hrx (vcells_one _) (by unfold maxLen; omega) (by omega) (by simp; omega) ?_; intro v' w2 hown2 hgr2 hat2; have hg2 : Gr w w2 := Gr.grown (Gr.alloc hgr _) hgr2 (fun k hk => (hvl k hk).1); obtain ⟨ad2, hA2, hb2, hy0, hy1⟩ := (hr.gr hg2).at hq; obtain rfl : ad = ad2 := (by injection hA2); clear hA2 hgr2 hat2)
        go_wp2_with fail
        refine (known6_any _).mono ?_; rintro e w3 ⟨rfl, hg3⟩
        go_wp2
        go_ret
        exact ⟨rfl, Gr.trans hg2 hg3⟩
      by_cases b2 : l[q].n < -1125899906842624
      · go_wp2_with (at_builtin; refine wpList_append_rd rfl (.tmp 16) (.tmp 21) 22 rfl w.heap.size 24 i0 _ 2 16 Try.underlying22 hi hz0 hz1 hz2 rfl (by decide) _ _ _ rfl hown1 (some ⟨wr.heap.size, 0, none⟩) 1 _ (vcells [l[q]]) rfl hrx (vcells_one _) (by unfold maxLen; omega) (by omega) (by simp; omega) ?_; intro v' w2 hown2 hgr2 hat2; have hg2 : Gr w w2 := Gr.grown (Gr.alloc hgr _) hgr2 (fun k hk => (hvl k hk).1); obtain ⟨ad2, hA2, hb2, hy0, hy1⟩ := (hr.gr hg2).at hq; obtain rfl : ad = ad2 := (by injection hA2); clear hA2 hgr2 hat2)
        go_wp2_with fail
        refine (known6_any _).mono ?_; rintro e w3 ⟨rfl, hg3⟩
        go_wp2
        go_ret
        exact ⟨rfl, Gr.trans hg2 hg3⟩
      go_wp2_with (at_builtin; refine wpList_append_rd rfl (.tmp 16) (.tmp 21) 22 rfl w.heap.size 24 i0 _ 2 16 Try.underlying22 hi hz0 hz1 hz2 rfl (by decide) _ _ _ rfl hown1 (some ⟨wr.heap.size, 0, none⟩) 1 _ (vcells [l[q]]) rfl hrx (vcells_one _) (by unfold maxLen; omega) (by omega) (by simp; omega) ?_; intro v' w2 hown2 hgr2 hat2; have hg2 : Gr w w2 := Gr.grown (Gr.alloc hgr _) hgr2 (fun k hk => (hvl k hk).1); obtain ⟨ad2, hA2, hb2, hy0, hy1⟩ := (hr.gr hg2).at hq; obtain rfl : ad = ad2 := (by injection hA2); clear hA2 hgr2 hat2)
      go_wp2
      go_roundw
      case rel => exact ⟨q, by omega, by go_num, hg2, by rw [HT.out, ← HLEN.out, vcells_append]; exact hown2, fun x hx => by
        rw [List.drop_eq_getElem_cons hq] at hx
        rcases List.mem_cons.1 hx with rfl | hx
        · exact ⟨by omega, by omega⟩
        · exact HALL.out x hx⟩
      case measure => simp [intOf]
end Go.Proofs.Ytoojjejdbpkbhaa
