/- The contracts of slices.Clone at series, and of fpick's does, by kinds. -/
import Derived.Test.YtbdichmkgcngbaaGreatFpSorted
namespace Go.Proofs.YtbdichmkgcngbaaGreat
set_option linter.unusedVariables false
set_option linter.unusedSimpArgs false
open Go.RowKit

set_option maxRecDepth 100000 in
set_option maxHeartbeats 3200000 in
theorem clones_any (A : Option Addr) (c : Nat) (L : List Sq) (w : World) (hl : L.length ≤ 1000000) (hr : Rl w A L) :
    Calls Tryz.prog 55 #[.slice A L.length c] w fun e w' => ∃ A' c', e = .returned (.slice A' L.length c') ∧ w'.ownsRow w.heap.size 30 5 (.slice A' L.length c') L.length (scells L) ∧ Gr w w' := by
  cases A with
  | none =>
    have h0 : L = [] := by
      rcases Nat.eq_zero_or_pos L.length with h | h
      · exact List.eq_nil_of_length_eq_zero h
      · obtain ⟨ad, e, _⟩ := hr.2 h; cases e
    subst h0
    have q22 : ∀ (w : World) (a : Option Addr) (n c n' c' : Nat), (binOp .eql 24 (.slice a n c) (.slice none n' c')).run Tryz.prog w = .ok (.bool a.isNone) w := fun w a n c n' c' => Lib.run_eql_slice_nil w _ _ a n c n' c' Tryz.underlying24
    go_enter Tryz.func55, Tryz.ntmps55
    go_wp2
    go_ret
    exact ⟨none, 0, rfl, World.ownsRow_nil _ _ _ _, (by repeat (first | exact Gr.refl _ | refine Gr.alloc ?_ _ | refine Gr.drew ?_ | refine Gr.setCell ?_ (by first | (simp; done) | (simp; omega) | omega) _ | refine Gr.trans ?_ (by assumption)))⟩
  | some ad =>
    obtain ⟨i0, hi, hz0, hz1, hz2⟩ := info_parts info_ser
    have hown0 := own_empty w w.heap.size (Nat.le_refl _) 30 5
    have hr0 : Rd (w.alloc (.cells #[] 30)) 5 (some ad) L.length (scells L) := Rd.gr hr (Gr.alloc (Gr.refl w) (.cells #[] 30))
    have q22 : ∀ (w : World) (a : Option Addr) (n c n' c' : Nat), (binOp .eql 24 (.slice a n c) (.slice none n' c')).run Tryz.prog w = .ok (.bool a.isNone) w := fun w a n c n' c' => Lib.run_eql_slice_nil w _ _ a n c n' c' Tryz.underlying24
    go_enter Tryz.func55, Tryz.ntmps55
    go_wp2_with (at_builtin; refine wpList_append_rd rfl (.tmp 5) (.tmp 6) 24 rfl w.heap.size 30 i0 _ 5 64 Tryz.underlying24 hi hz0 hz1 hz2 rfl (by decide) _ _ _ rfl hown0 (some ad) L.length c (scells L) rfl hr0 (scells_one _) (by unfold maxLen; omega) (by omega) (by simp) ?_; intro v' w2 hown2 hgr2 hat2)
    have hg2 : Gr w w2 := Gr.grown (Gr.alloc (Gr.refl w) _) hgr2 (fun k hk => by have h : some w.heap.size = some k := hk; injection h with h; omega)
    rw [Nat.zero_add, List.nil_append] at hown2
    obtain ⟨A', c', hv⟩ := own_form hown2
    subst hv
    clear hgr2 hat2 hown0 hr0
    go_wp2
    go_ret
    exact ⟨A', c', rfl, hown2, hg2⟩

set_option maxRecDepth 100000 in
set_option maxHeartbeats 3200000 in
theorem does1_any (nm : ByteArray) (by_ : Int) (least : Bool) (ko : Bool) (kn_ : Int) (A : Option Addr) (c : Nat) (L : List Sq) (w : World) (hk : isB ⟨ko, kn_⟩ = true) (h20 : L.length ≤ 20) (hcap : L.length ≤ c) (hle : ∀ x ∈ L, x.s.vals.length ≤ 1000000) (hr : Rl w A L) (hv : Lie w L) :
    Calls Tryz.prog 34 #[.agg #[.string nm, .int .i64 1, .int .i64 by_, .bool least], .agg #[.bool ko, .int .i64 kn_], .slice A L.length c] w (RetL (firstL ⟨ko, kn_⟩ L) w) := by
  have hl : L.length ≤ 1000000 := by omega
  have gw : Gr w ((w.alloc (.cells #[.string nm, .int .i64 1, .int .i64 by_, .bool least] 45)).alloc (.cells #[.bool ko, .int .i64 kn_] 23)) := Gr.alloc (Gr.alloc (Gr.refl _) _) _
  go_enter Tryz.func34, Tryz.ntmps34
  go_wp2_with fail
  refine (first_any ⟨ko, kn_⟩ A c L _ hk hl hcap (hr.gr gw)).mono ?_; rintro e w1 ⟨A1, c1, rfl, hc1, hr1, hg⟩
  go_wp2
  go_ret
  exact ⟨A1, c1, rfl, hc1, hr1, Gr.trans gw hg⟩

set_option maxRecDepth 100000 in
set_option maxHeartbeats 3200000 in
theorem does2_any (nm : ByteArray) (by_ : Int) (least : Bool) (ko : Bool) (kn_ : Int) (A : Option Addr) (c : Nat) (L : List Sq) (w : World) (hk : isB ⟨ko, kn_⟩ = true) (h20 : L.length ≤ 20) (hcap : L.length ≤ c) (hle : ∀ x ∈ L, x.s.vals.length ≤ 1000000) (hr : Rl w A L) (hv : Lie w L) :
    Calls Tryz.prog 34 #[.agg #[.string nm, .int .i64 2, .int .i64 by_, .bool least], .agg #[.bool ko, .int .i64 kn_], .slice A L.length c] w (RetL (sortR (fun a b => ltN a.s.name b.s.name) L) w) := by
  have hl : L.length ≤ 1000000 := by omega
  have gw : Gr w ((w.alloc (.cells #[.string nm, .int .i64 2, .int .i64 by_, .bool least] 45)).alloc (.cells #[.bool ko, .int .i64 kn_] 23)) := Gr.alloc (Gr.alloc (Gr.refl _) _) _
  go_enter Tryz.func34, Tryz.ntmps34
  go_wp2_with fail
  refine (clones_any A c L _ hl (hr.gr gw)).mono ?_; rintro e w1 ⟨A1, c1, rfl, hown, hg⟩
  have gw1 := Gr.trans gw hg
  have QS := Lib.hid (sortn_any _ c1 A1 L w w1 h20 hown gw1 gw.size)
  have hcap1 := own_cap hown
  clear hown hg
  go_wp2_with fail
  refine QS.out.mono ?_; rintro e w2 ⟨rfl, hg2, hrd⟩
  have hrl : Rl w2 A1 (sortR (fun a b => ltN a.s.name b.s.name) L) := by unfold Rl; rw [sortR_len]; exact hrd
  have HL : Hid (L.length = (sortR (fun a b => ltN a.s.name b.s.name) L).length) := Lib.hid (by rw [sortR_len])
  clear hrd
  go_wp2
  go_ret
  exact ⟨A1, c1, ret_slice HL.out, by rw [← HL.out]; exact hcap1, hrl, hg2⟩

set_option maxRecDepth 100000 in
set_option maxHeartbeats 3200000 in
theorem does3_any (nm : ByteArray) (by_ : Int) (least : Bool) (ko : Bool) (kn_ : Int) (A : Option Addr) (c : Nat) (L : List Sq) (w : World) (hk : isB ⟨ko, kn_⟩ = true) (h20 : L.length ≤ 20) (hcap : L.length ≤ c) (hle : ∀ x ∈ L, x.s.vals.length ≤ 1000000) (hr : Rl w A L) (hv : Lie w L) :
    Calls Tryz.prog 34 #[.agg #[.string nm, .int .i64 3, .int .i64 by_, .bool least], .agg #[.bool ko, .int .i64 kn_], .slice A L.length c] w (RetL (sortR (fun a b => ltV least (ofR by_ a.s.vals) (ofR by_ b.s.vals)) L) w) := by
  have hl : L.length ≤ 1000000 := by omega
  have gw : Gr w ((w.alloc (.cells #[.string nm, .int .i64 3, .int .i64 by_, .bool least] 45)).alloc (.cells #[.bool ko, .int .i64 kn_] 23)) := Gr.alloc (Gr.alloc (Gr.refl _) _) _
  have Q := fun w hr hv => sorted_any ⟨nm, 3, by_, least⟩ A c L w h20 hle hr hv
  unfold aggFr at Q
  simp only at Q
  go_enter Tryz.func34, Tryz.ntmps34
  go_wp2_with fail
  refine (Q _ (hr.gr gw) (hv.gr gw)).mono ?_; rintro e w1 ⟨A1, c1, rfl, hc1, hr1, hg⟩
  go_wp2
  go_ret
  exact ⟨A1, c1, rfl, hc1, hr1, Gr.trans gw hg⟩

def DoS (B : Nat) (r : Fr) (k : Vl) (W : World) : Prop := FAt W B r ∧ VAt W (B + 1) k

set_option maxRecDepth 100000 in
set_option maxHeartbeats 3200000 in
theorem does4_any (nm : ByteArray) (by_ : Int) (least : Bool) (ko : Bool) (kn_ : Int) (A : Option Addr) (c : Nat) (L : List Sq) (w : World) (hk : isB ⟨ko, kn_⟩ = true) (h20 : L.length ≤ 20) (hcap : L.length ≤ c) (hle : ∀ x ∈ L, x.s.vals.length ≤ 1000000) (hr : Rl w A L) (hv : Lie w L) :
    Calls Tryz.prog 34 #[.agg #[.string nm, .int .i64 4, .int .i64 by_, .bool least], .agg #[.bool ko, .int .i64 kn_], .slice A L.length c] w (RetL (firstL ⟨ko, kn_⟩ (sortR (fun a b => ltV least (ofR by_ a.s.vals) (ofR by_ b.s.vals)) L)) w) := by
  have hl : L.length ≤ 1000000 := by omega
  have gw : Gr w ((w.alloc (.cells #[.string nm, .int .i64 4, .int .i64 by_, .bool least] 45)).alloc (.cells #[.bool ko, .int .i64 kn_] 23)) := Gr.alloc (Gr.alloc (Gr.refl _) _) _
  have Q := fun w hr hv => sorted_any ⟨nm, 4, by_, least⟩ A c L w h20 hle hr hv
  unfold aggFr at Q
  simp only at Q
  have hFA : FAt ((w.alloc (.cells #[.string nm, .int .i64 4, .int .i64 by_, .bool least] 45)).alloc (.cells #[.bool ko, .int .i64 kn_] 23)) w.heap.size ⟨nm, 4, by_, least⟩ := by
    refine ⟨?_, ?_, ?_, ?_, ?_⟩
    all_goals first | (go_simp; done) | (simp; done) | (simp; omega)
  have hVA : VAt ((w.alloc (.cells #[.string nm, .int .i64 4, .int .i64 by_, .bool least] 45)).alloc (.cells #[.bool ko, .int .i64 kn_] 23)) (w.heap.size + 1) ⟨ko, kn_⟩ := by
    refine ⟨?_, ?_, ?_⟩
    all_goals first | (go_simp; done) | (simp; done)
  have hS0 : DoS w.heap.size ⟨nm, 4, by_, least⟩ ⟨ko, kn_⟩ ((w.alloc (.cells #[.string nm, .int .i64 4, .int .i64 by_, .bool least] 45)).alloc (.cells #[.bool ko, .int .i64 kn_] 23)).drew := ⟨hFA.gr (Gr.drew (Gr.refl _)), hVA.gr (Gr.drew (Gr.refl _))⟩
  have gV0 : Gr w ((w.alloc (.cells #[.string nm, .int .i64 4, .int .i64 by_, .bool least] 45)).alloc (.cells #[.bool ko, .int .i64 kn_] 23)).drew := Gr.drew gw
  clear hFA hVA gw
  go_enter Tryz.func34, Tryz.ntmps34
  go_wp2
  obtain ⟨V, hV⟩ : ∃ V, V = ((w.alloc (.cells #[.string nm, .int .i64 4, .int .i64 by_, .bool least] 45)).alloc (.cells #[.bool ko, .int .i64 kn_] 23)).drew := ⟨_, rfl⟩
  refine wp_region_Z 5 (DoS w.heap.size ⟨nm, 4, by_, least⟩ ⟨ko, kn_⟩) (by kernel_rfl) ?_
  rw [← hV] at hS0 gV0 ⊢
  clear hV
  refine wpAnyZ_take (i := 0) (v := ?v1) rfl (by kernel_rfl) (fun _ _ _ h => h) (by rfl) (fun W hS => ?h1) hS0 ?r1
  case h1 =>
    obtain ⟨⟨r0, r1, r2, r3, r4⟩, k0, k1, k2⟩ := hS
    go_simp
    rfl
  simp only [Act.put, List.setIfInBounds_toArray, List.set_cons_zero, List.set_cons_succ]
  refine wpAnyZ_take (i := 1) (v := ?v2) rfl (by kernel_rfl) (fun _ _ _ h => h) (by rfl) (fun W hS => ?h2) hS0 ?r2
  case h2 =>
    obtain ⟨⟨r0, r1, r2, r3, r4⟩, k0, k1, k2⟩ := hS
    go_simp
    rfl
  simp only [Act.put, List.setIfInBounds_toArray, List.set_cons_zero, List.set_cons_succ]
  refine wpAnyZ_take (i := 2) (v := ?v3) rfl (by kernel_rfl) (fun _ _ _ h => h) (by rfl) (fun W hS => ?h3) hS0 ?r3
  case h3 =>
    go_simp
    rfl
  simp only [Act.put, List.setIfInBounds_toArray, List.set_cons_zero, List.set_cons_succ]
  refine wpAnyZ_ready (rs := [3]) (by kernel_rfl) (by simp) ?_
  refine AllReadyZ.cons rfl (by rfl) (fun K hK => ?_) ?_
  rotate_left
  exact AllReadyZ.nil
  go_simp
  refine (Q _ (hr.gr gV0) (hv.gr gV0)).mono ?_; rintro e w5 ⟨A1, c1, rfl, hc1, hr1, hg5⟩
  have gV5 := Gr.trans gV0 hg5
  have hS5 : DoS w.heap.size ⟨nm, 4, by_, least⟩ ⟨ko, kn_⟩ w5 := ⟨hS0.1.gr hg5, hS0.2.gr hg5⟩
  go_wp2_with fail
  refine hK.out _ _ (fun hnz => ?s4) (fun _ => ?r4)
  case s4 => exact hS5
  clear hK K
  try simp only [Act.put, List.setIfInBounds_toArray, List.set_cons_zero, List.set_cons_succ]
  refine wpAnyZ_ready (rs := [4]) (by kernel_rfl) (by simp) ?_
  refine AllReadyZ.cons rfl (by rfl) (fun K hK => ?_) ?_
  rotate_left
  exact AllReadyZ.nil
  go_simp
  refine (first_any ⟨ko, kn_⟩ A1 c1 _ _ hk (by rw [sortR_len]; exact hl) hc1 hr1).mono ?_; rintro e w6 ⟨A2, c2, rfl, hc2, hr2, hg6⟩
  have gV6 := Gr.trans gV5 hg6
  have hS6 : DoS w.heap.size ⟨nm, 4, by_, least⟩ ⟨ko, kn_⟩ w6 := ⟨hS5.1.gr hg6, hS5.2.gr hg6⟩
  go_wp2_with fail
  refine hK.out _ _ (fun hnz => ?s5) (fun _ => ?r5)
  case s5 => exact hS6
  clear hK K
  try simp only [Act.put, List.setIfInBounds_toArray, List.set_cons_zero, List.set_cons_succ]
  refine wpAnyZ_ready (rs := [5]) (by kernel_rfl) (by simp) ?_
  refine AllReadyZ.cons rfl (by rfl) (fun K hK => ?_) ?_
  rotate_left
  exact AllReadyZ.nil
  go_simp
  refine hK.out _ _ (fun hnz => ?s6) (fun _ => ?r6)
  case s6 => exact hS6
  clear hK K
  try simp only [Act.put, List.setIfInBounds_toArray, List.set_cons_zero, List.set_cons_succ]
  refine wpAnyZ_done (by kernel_rfl) ?_ _
  clear hS0 hS6 Q hS5
  go_wp2
  go_ret
  exact ⟨A2, c2, rfl, hc2, hr2, gV6⟩

set_option maxRecDepth 100000 in
set_option maxHeartbeats 3200000 in
theorem does5_any (nm : ByteArray) (by_ : Int) (least : Bool) (ko : Bool) (kn_ : Int) (A : Option Addr) (c : Nat) (L : List Sq) (w : World) (hk : isB ⟨ko, kn_⟩ = true) (h20 : L.length ≤ 20) (hcap : L.length ≤ c) (hle : ∀ x ∈ L, x.s.vals.length ≤ 1000000) (hr : Rl w A L) (hv : Lie w L) :
    Calls Tryz.prog 34 #[.agg #[.string nm, .int .i64 5, .int .i64 by_, .bool least], .agg #[.bool ko, .int .i64 kn_], .slice A L.length c] w (RetL (L.filter fun x => lessB ⟨ko, kn_⟩ (ofR by_ x.s.vals)) w) := by
  have hl : L.length ≤ 1000000 := by omega
  have gw : Gr w ((w.alloc (.cells #[.string nm, .int .i64 5, .int .i64 by_, .bool least] 45)).alloc (.cells #[.bool ko, .int .i64 kn_] 23)) := Gr.alloc (Gr.alloc (Gr.refl _) _) _
  have hFA : FAt ((w.alloc (.cells #[.string nm, .int .i64 5, .int .i64 by_, .bool least] 45)).alloc (.cells #[.bool ko, .int .i64 kn_] 23)) w.heap.size ⟨nm, 5, by_, least⟩ := by
    refine ⟨?_, ?_, ?_, ?_, ?_⟩
    all_goals first | (go_simp; done) | (simp; done) | (simp; omega)
  have hVA : VAt ((w.alloc (.cells #[.string nm, .int .i64 5, .int .i64 by_, .bool least] 45)).alloc (.cells #[.bool ko, .int .i64 kn_] 23)) (w.heap.size + 1) ⟨ko, kn_⟩ := by
    refine ⟨?_, ?_, ?_⟩
    all_goals first | (go_simp; done) | (simp; done)
  have QT := Lib.hid (fun (w2 : World) (g2 : Gr ((w.alloc (.cells #[.string nm, .int .i64 5, .int .i64 by_, .bool least] 45)).alloc (.cells #[.bool ko, .int .i64 kn_] 23)) w2) => thosea_any (.pointer (some ⟨w.heap.size + 1, 0, none⟩)) (.pointer (some ⟨w.heap.size, 0, none⟩)) (fun x => lessB ⟨ko, kn_⟩ (ofR by_ x.s.vals)) A c L w2 hl ((hr.gr gw).gr g2) (fun x hx W hW => above_any (w.heap.size + 1) w.heap.size ⟨ko, kn_⟩ ⟨nm, 5, by_, least⟩ x W ((hVA.gr g2).gr hW) ((hFA.gr g2).gr hW) (hle x hx) ((((hv x hx).gr gw).gr g2).gr hW)))
  clear hFA hVA
  go_enter Tryz.func34, Tryz.ntmps34
  go_wp2_with fail
  refine (QT.out _ (Gr.refl _)).mono ?_; rintro e w1 ⟨A1, c1, rfl, hc1, hr1, hg⟩
  go_wp2
  go_ret
  exact ⟨A1, c1, rfl, hc1, hr1, Gr.trans gw hg⟩

set_option maxRecDepth 100000 in
set_option maxHeartbeats 3200000 in
theorem does6_any (nm : ByteArray) (by_ : Int) (least : Bool) (ko : Bool) (kn_ : Int) (A : Option Addr) (c : Nat) (L : List Sq) (w : World) (hk : isB ⟨ko, kn_⟩ = true) (h20 : L.length ≤ 20) (hcap : L.length ≤ c) (hle : ∀ x ∈ L, x.s.vals.length ≤ 1000000) (hr : Rl w A L) (hv : Lie w L) :
    Calls Tryz.prog 34 #[.agg #[.string nm, .int .i64 6, .int .i64 by_, .bool least], .agg #[.bool ko, .int .i64 kn_], .slice A L.length c] w (RetL (L.filter fun x => belowB ⟨ko, kn_⟩ (ofR by_ x.s.vals)) w) := by
  have hl : L.length ≤ 1000000 := by omega
  have gw : Gr w ((w.alloc (.cells #[.string nm, .int .i64 6, .int .i64 by_, .bool least] 45)).alloc (.cells #[.bool ko, .int .i64 kn_] 23)) := Gr.alloc (Gr.alloc (Gr.refl _) _) _
  have hFA : FAt ((w.alloc (.cells #[.string nm, .int .i64 6, .int .i64 by_, .bool least] 45)).alloc (.cells #[.bool ko, .int .i64 kn_] 23)) w.heap.size ⟨nm, 6, by_, least⟩ := by
    refine ⟨?_, ?_, ?_, ?_, ?_⟩
    all_goals first | (go_simp; done) | (simp; done) | (simp; omega)
  have hVA : VAt ((w.alloc (.cells #[.string nm, .int .i64 6, .int .i64 by_, .bool least] 45)).alloc (.cells #[.bool ko, .int .i64 kn_] 23)) (w.heap.size + 1) ⟨ko, kn_⟩ := by
    refine ⟨?_, ?_, ?_⟩
    all_goals first | (go_simp; done) | (simp; done)
  have QT := Lib.hid (fun (w2 : World) (g2 : Gr ((w.alloc (.cells #[.string nm, .int .i64 6, .int .i64 by_, .bool least] 45)).alloc (.cells #[.bool ko, .int .i64 kn_] 23)) w2) => thoseb_any (.pointer (some ⟨w.heap.size, 0, none⟩)) (.pointer (some ⟨w.heap.size + 1, 0, none⟩)) (fun x => belowB ⟨ko, kn_⟩ (ofR by_ x.s.vals)) A c L w2 hl ((hr.gr gw).gr g2) (fun x hx W hW => below_any (w.heap.size + 1) w.heap.size ⟨ko, kn_⟩ ⟨nm, 6, by_, least⟩ x W ((hVA.gr g2).gr hW) ((hFA.gr g2).gr hW) (hle x hx) ((((hv x hx).gr gw).gr g2).gr hW)))
  clear hFA hVA
  go_enter Tryz.func34, Tryz.ntmps34
  go_wp2_with fail
  refine (QT.out _ (Gr.refl _)).mono ?_; rintro e w1 ⟨A1, c1, rfl, hc1, hr1, hg⟩
  go_wp2
  go_ret
  exact ⟨A1, c1, rfl, hc1, hr1, Gr.trans gw hg⟩

set_option maxRecDepth 100000 in
set_option maxHeartbeats 3200000 in
theorem does7_any (nm : ByteArray) (by_ : Int) (least : Bool) (ko : Bool) (kn_ : Int) (A : Option Addr) (c : Nat) (L : List Sq) (w : World) (hk : isB ⟨ko, kn_⟩ = true) (h20 : L.length ≤ 20) (hcap : L.length ≤ c) (hle : ∀ x ∈ L, x.s.vals.length ≤ 1000000) (hr : Rl w A L) (hv : Lie w L) :
    Calls Tryz.prog 34 #[.agg #[.string nm, .int .i64 7, .int .i64 by_, .bool least], .agg #[.bool ko, .int .i64 kn_], .slice A L.length c] w (RetL (L.filter fun x => !(kn x.s.vals).isEmpty) w) := by
  have hl : L.length ≤ 1000000 := by omega
  have gw : Gr w ((w.alloc (.cells #[.string nm, .int .i64 7, .int .i64 by_, .bool least] 45)).alloc (.cells #[.bool ko, .int .i64 kn_] 23)) := Gr.alloc (Gr.alloc (Gr.refl _) _) _
  have hFA : FAt ((w.alloc (.cells #[.string nm, .int .i64 7, .int .i64 by_, .bool least] 45)).alloc (.cells #[.bool ko, .int .i64 kn_] 23)) w.heap.size ⟨nm, 7, by_, least⟩ := by
    refine ⟨?_, ?_, ?_, ?_, ?_⟩
    all_goals first | (go_simp; done) | (simp; done) | (simp; omega)
  have hVA : VAt ((w.alloc (.cells #[.string nm, .int .i64 7, .int .i64 by_, .bool least] 45)).alloc (.cells #[.bool ko, .int .i64 kn_] 23)) (w.heap.size + 1) ⟨ko, kn_⟩ := by
    refine ⟨?_, ?_, ?_⟩
    all_goals first | (go_simp; done) | (simp; done)
  have QT := Lib.hid (fun (w2 : World) (g2 : Gr ((w.alloc (.cells #[.string nm, .int .i64 7, .int .i64 by_, .bool least] 45)).alloc (.cells #[.bool ko, .int .i64 kn_] 23)) w2) => thosek_any (fun x => !(kn x.s.vals).isEmpty) A c L w2 hl ((hr.gr gw).gr g2) (fun x hx W hW => keepsk_any x W (hle x hx) ((((hv x hx).gr gw).gr g2).gr hW)))
  clear hFA hVA
  go_enter Tryz.func34, Tryz.ntmps34
  go_wp2_with fail
  refine (QT.out _ (Gr.refl _)).mono ?_; rintro e w1 ⟨A1, c1, rfl, hc1, hr1, hg⟩
  go_wp2
  go_ret
  exact ⟨A1, c1, rfl, hc1, hr1, Gr.trans gw hg⟩

/-- fpick's does: what a function picks. -/
theorem does_any (r : Fr) (k : Vl) (A : Option Addr) (c : Nat) (L : List Sq) (w : World) (hk : isB k = true) (h20 : L.length ≤ 20) (hcap : L.length ≤ c) (hle : ∀ x ∈ L, x.s.vals.length ≤ 1000000) (hr : Rl w A L) (hv : Lie w L) (h1 : 1 ≤ r.kind) (h7 : r.kind ≤ 7) :
    Calls Tryz.prog 34 #[aggFr r, .agg #[.bool k.ok, .int .i64 k.n], .slice A L.length c] w (RetL (pickA Sq.s r k L) w) := by
  obtain ⟨nm, kind, by_, least⟩ := r
  obtain ⟨ko, kn_⟩ := k
  simp only at h1 h7
  have hc : kind = 1 ∨ kind = 2 ∨ kind = 3 ∨ kind = 4 ∨ kind = 5 ∨ kind = 6 ∨ kind = 7 := by omega
  rcases hc with rfl | rfl | rfl | rfl | rfl | rfl | rfl
  · exact does1_any nm by_ least ko kn_ A c L w hk h20 hcap hle hr hv
  · exact does2_any nm by_ least ko kn_ A c L w hk h20 hcap hle hr hv
  · exact does3_any nm by_ least ko kn_ A c L w hk h20 hcap hle hr hv
  · exact does4_any nm by_ least ko kn_ A c L w hk h20 hcap hle hr hv
  · exact does5_any nm by_ least ko kn_ A c L w hk h20 hcap hle hr hv
  · exact does6_any nm by_ least ko kn_ A c L w hk h20 hcap hle hr hv
  · exact does7_any nm by_ least ko kn_ A c L w hk h20 hcap hle hr hv
end Go.Proofs.YtbdichmkgcngbaaGreat
