/- rex.writer.piece at groups and at repetitions, the kid's contract given. -/
import Derived.Test.YtjapddfnpmlifaaGreatDoorRunRxWrt
import Derived.Test.YtjapddfnpmlifaaGreatDoorRegT
namespace Go.Proofs.YtjapddfnpmlifaaGreatDoor
set_option linter.unusedVariables false
set_option linter.unusedSimpArgs false
open Go.RowKit

theorem Rkn.kid {lo hi bk : Nat} {w : World} {kids : Value} (h : Rkn lo hi w kids [bk]) : ∃ ad c, kids = .slice (some ad) 1 c ∧ lo < ad.block ∧ ad.block < hi ∧ w.cell? ad = some (.pointer (some ⟨bk, 0, none⟩)) := by
 obtain ⟨A, c, e, hr, hb⟩ := h
 obtain ⟨ad, rfl, _, hc⟩ := hr.2 (by simp)
 obtain ⟨h0, h1⟩ := hb (by simp) ad rfl
 exact ⟨ad, c, e, h0, h1, hc 0 _ rfl⟩
theorem Same.at_ {lo hi : Nat} {w w' : World} (h : Same lo hi w w') {p : Addr} (h0 : lo < p.block) (h1 : p.block < hi) {u : Value} (hc : w.cell? p = some u) : w'.cell? p = some u := (World.cell?_of_block (h.2 _ h0 h1)).trans hc
theorem Same.trans {lo hi : Nat} {w w1 w2 : World} (h : Same lo hi w w1) (k : Same lo hi w1 w2) : Same lo hi w w2 := ⟨k.1, fun i h0 h1 => (k.2 i h0 h1).trans (h.2 i h0 h1)⟩
theorem WrtA.same {w w' : World} {B lo hi : Nat} {A : Option Addr} {g' : Option Nat} {code : List In} (h : WrtA w B A code) (x : WX B w (blk A) w' g') (hB : hi ≤ B) : Same lo hi w w' :=
 x.same hB (fun k hk => Nat.le_of_lt (h.row k hk).1) h.lt
/-- what the kid's contract says, wherever the writer is by then. -/
def KidP (lo hi B bk : Nat) (w : World) (k : Pc) (n : Nat) : Prop :=
 ∀ (w1 : World) (A1 : Option Addr) (code1 : List In), WrtA w1 B A1 code1 → Same lo hi w w1 → code1.length = n →
  Calls Tryz.prog 81 #[.pointer (some ⟨B, 0, none⟩), .pointer (some ⟨bk, 0, none⟩)] w1 (RetW w1 B A1 (code1 ++ k.lay n))
theorem Pc.lay_ne (k : Pc) (n : Nat) : (k.lay n).length = k.sz := Pc.lay_len k n

set_option maxRecDepth 100000 in
set_option maxHeartbeats 3200000 in
theorem put_group0 {w : World} {B lo hi : Nat} {A : Option Addr} {code : List In} (hB : WrtA w B A code) {b bk : Nat} {kids : Value} {k : Pc} (hl : code.length + k.sz ≤ 1016) (h0 : lo < b) (h1 : b < hi) (h2 : hi ≤ B) (hr : Rkn lo hi w kids [bk]) (hn : Node w b 12 [] kids 0 false) (HK : KidP lo hi B bk w k code.length) :
  Calls Tryz.prog 81 #[.pointer (some ⟨B, 0, none⟩), .pointer (some ⟨b, 0, none⟩)] w (RetW w B A (code ++ k.lay code.length)) := by
 obtain ⟨ad, ac, rfl, a0, a1, ha⟩ := hr.kid
 have Ha := Lib.hid ha
 have hful : decide (1024 < (code.length : Int)) = false := by simp; omega
 obtain ⟨n0, n1, n2, n3, n4⟩ := id hn
 go_enter Tryz.func81, Tryz.ntmps81
 go_upto_region 14 with (go_at_call 82; refine (full_any hB).mono ?_; rintro e w1 ⟨rfl, rfl⟩)
 have Hh := Lib.hid hn
 clear hful hn
 go_upto_region 15 with (go_at_call 81; refine (HK w A code hB ⟨by have := hB.lt; omega, fun _ _ _ => rfl⟩ rfl).mono ?_; rintro e w2 ⟨rfl, A2, hB2, hX2⟩)
 have hS2 := hB.same (lo := lo) hX2 h2
 have hn := Hh.out
 obtain ⟨m0, m1, m2, m3, m4⟩ := hS2.node h0 h1 hn
 have ha2 := hS2.at_ a0 a1 Ha.out
 clear n0 n1 n2 n3 n4 ha hn HK
 have Hx := Lib.hid (And.intro hB2 hX2)
 clear hB2 hX2
 go_wp2
 go_end0
 exact ⟨rfl, A2, Hx.out.1, Hx.out.2⟩

set_option maxRecDepth 100000 in
set_option maxHeartbeats 3200000 in
theorem put_group {w : World} {B lo hi : Nat} {A : Option Addr} {code : List In} (hB : WrtA w B A code) {b bk : Nat} {kids : Value} {k : Pc} {g : Nat} (hg : 0 < g) (hg5 : g ≤ 5000) (hl : code.length + k.sz ≤ 1016) (h0 : lo < b) (h1 : b < hi) (h2 : hi ≤ B) (hr : Rkn lo hi w kids [bk]) (hn : Node w b 12 [] kids g false) (HK : KidP lo hi B bk w k (code.length + 1)) :
  Calls Tryz.prog 81 #[.pointer (some ⟨B, 0, none⟩), .pointer (some ⟨b, 0, none⟩)] w (RetW w B A (code ++ ⟨4, 2 * g, 0, []⟩ :: (k.lay (code.length + 1) ++ [⟨4, 2 * g + 1, 0, []⟩]))) := by
 obtain ⟨ad, ac, rfl, a0, a1, ha⟩ := hr.kid
 have Ha := Lib.hid ha
 have hful : decide (1024 < (code.length : Int)) = false := by simp; omega
 obtain ⟨n0, n1, n2, n3, n4⟩ := id hn
 go_enter Tryz.func81, Tryz.ntmps81
 go_upto_region 13 with (go_at_call 82; refine (full_any hB).mono ?_; rintro e w1 ⟨rfl, rfl⟩)
 have Hh := Lib.hid hn
 clear hful hn
 go_upto_region 14 with (go_at_call 80; refine (lays_one hB ⟨4, 2 * g, 0, []⟩ (by omega)).mono ?_; rintro e w2 ⟨rfl, A2, hB2, hX2⟩)
 have hS2 := hB.same (lo := lo) hX2 h2
 have hn := Hh.out
 obtain ⟨m0, m1, m2, m3, m4⟩ := hS2.node h0 h1 hn
 have ha2 := hS2.at_ a0 a1 Ha.out
 clear n0 n1 n2 n3 n4 ha hn
 obtain ⟨code2, hc2⟩ : ∃ c, c = code ++ [⟨4, 2 * g, 0, []⟩] := ⟨_, rfl⟩
 rw [← hc2] at hB2
 have hl2 : code2.length = code.length + 1 := by rw [hc2]; simp
 have Hl2 := Lib.hid hl2
 have Hc2 := Lib.hid hc2
 clear hl2 hc2
 go_upto_region 15 with (go_at_call 81; refine (HK _ A2 code2 hB2 hS2 Hl2.out).mono ?_; rintro e w3 ⟨rfl, A3, hB3, hX3⟩)
 have hS3 := hS2.trans (hB2.same (lo := lo) hX3 h2)
 have hn := Hh.out
 clear m0 m1 m2 m3 m4 ha2 HK
 obtain ⟨m0, m1, m2, m3, m4⟩ := hS3.node h0 h1 hn
 have ha3 := hS3.at_ a0 a1 Ha.out
 clear ha3 hn
 obtain ⟨code3, hc3⟩ : ∃ c, c = code2 ++ k.lay (code.length + 1) := ⟨_, rfl⟩
 rw [← hc3] at hB3
 have hl3 : code3.length ≤ code.length + 1 + k.sz := by rw [hc3, List.length_append, Hl2.out, Pc.lay_len]; exact Nat.le_refl _
 have Hc3 := Lib.hid hc3
 clear hc3
 go_wp2_with (go_at_call 80; refine (lays_one hB3 ⟨4, 2 * g + 1, 0, []⟩ (by omega)).mono ?_; rintro e w4 ⟨rfl, A4, hB4, hX4⟩)
 go_end0
 refine ⟨rfl, A4, ?_, (hX2.trans hX3).trans hX4⟩
 rw [Hc3.out, Hc2.out] at hB4
 simpa using hB4

theorem set_mid (code : List In) (v v' : In) (l : List In) : (code ++ v :: l).set code.length v' = code ++ v' :: l := by simp [List.set_append]
theorem set_split {code code4 l : List In} {v : In} (hc : code4 = code ++ v :: l) {L : Nat} (hL : L = code.length) (h : L < code4.length) (X Y : Int) : code4.set L ⟨code4[L].op, X, Y, code4[L].ps⟩ = code ++ ⟨v.op, X, Y, v.ps⟩ :: l := by
 subst hc hL
 simp [List.set_append]
set_option maxRecDepth 100000 in
set_option maxHeartbeats 3200000 in
theorem put_star_false {w : World} {B lo hi : Nat} {A : Option Addr} {code : List In} (hB : WrtA w B A code) {b bk : Nat} {kids : Value} {k : Pc} (hl : code.length + k.sz ≤ 1016) (h0 : lo < b) (h1 : b < hi) (h2 : hi ≤ B) (hr : Rkn lo hi w kids [bk]) (hn : Node w b 42 [] kids 0 false) (HK : KidP lo hi B bk w k (code.length + 1)) :
  Calls Tryz.prog 81 #[.pointer (some ⟨B, 0, none⟩), .pointer (some ⟨b, 0, none⟩)] w (RetW w B A (code ++ splitI false (code.length + 1) (code.length + k.sz + 2) :: (k.lay (code.length + 1) ++ [⟨3, code.length, 0, []⟩]))) := by
 obtain ⟨ad, ac, rfl, a0, a1, ha⟩ := hr.kid
 have Ha := Lib.hid ha
 have hful : decide (1024 < (code.length : Int)) = false := by simp; omega
 obtain ⟨n0, n1, n2, n3, n4⟩ := id hn
 go_enter Tryz.func81, Tryz.ntmps81
 go_upto_region 18 with (go_at_call 82; refine (full_any hB).mono ?_; rintro e w1 ⟨rfl, rfl⟩)
 have Hh := Lib.hid hn
 clear hful hn
 go_upto_region 19 with (go_at_call 80; refine (lays_one hB ⟨2, 0, 0, []⟩ (by omega)).mono ?_; rintro e w2 ⟨rfl, A2, hB2, hX2⟩)
 have hS2 := hB.same (lo := lo) hX2 h2
 have hn := Hh.out
 obtain ⟨m0, m1, m2, m3, m4⟩ := hS2.node h0 h1 hn
 have ha2 := hS2.at_ a0 a1 Ha.out
 clear n0 n1 n2 n3 n4 ha hn
 obtain ⟨code2, hc2⟩ : ∃ c, c = code ++ [⟨2, 0, 0, []⟩] := ⟨_, rfl⟩
 rw [← hc2] at hB2
 have hl2 : code2.length = code.length + 1 := by rw [hc2]; simp
 have Hl2 := Lib.hid hl2
 have Hc2 := Lib.hid hc2
 clear hl2 hc2
 go_upto_region 20 with (go_at_call 81; refine (HK _ A2 code2 hB2 hS2 Hl2.out).mono ?_; rintro e w3 ⟨rfl, A3, hB3, hX3⟩)
 have hS3 := hS2.trans (hB2.same (lo := lo) hX3 h2)
 clear m0 m1 m2 m3 m4 ha2 HK
 obtain ⟨code3, hc3⟩ : ∃ c, c = code2 ++ k.lay (code.length + 1) := ⟨_, rfl⟩
 rw [← hc3] at hB3
 have hl3 : code3.length = code.length + 1 + k.sz := by rw [hc3, List.length_append, Hl2.out, Pc.lay_len]
 have hl3' : code3.length ≤ code.length + 1 + k.sz := Nat.le_of_eq hl3
 have Hl3 := Lib.hid hl3
 have Hc3 := Lib.hid hc3
 clear hc3 hl3
 go_upto_region 21 with (go_at_call 80; refine (lays_one hB3 ⟨3, code.length, 0, []⟩ (by omega)).mono ?_; rintro e w4 ⟨rfl, A4, hB4, hX4⟩)
 have hS4 := hS3.trans (hB3.same (lo := lo) hX4 h2)
 have hn := Hh.out
 obtain ⟨m0, m1, m2, m3, m4⟩ := hS4.node h0 h1 hn
 have ha4 := hS4.at_ a0 a1 Ha.out
 clear ha4 hn m0 m1 m2 m3 hl3'
 obtain ⟨code4, hc4⟩ : ∃ c, c = code3 ++ [⟨3, code.length, 0, []⟩] := ⟨_, rfl⟩
 rw [← hc4] at hB4
 obtain ⟨N, hN⟩ : ∃ N, N = code4.length := ⟨_, rfl⟩
 have hN' : N = code.length + k.sz + 2 := by rw [hN, hc4, List.length_append, Hl3.out]; simp; omega
 have hN4 : N ≤ 1020 := by omega
 have hLN : code.length < N := by omega
 obtain ⟨c4, hw4, hB4'⟩ : ∃ c, w4.cell? ⟨B, 0, none⟩ = some (.slice A4 N c) ∧ WrtA w4 B A4 code4 := by
  obtain ⟨c, h5, h6⟩ := id hB4
  rw [← hN] at h5
  exact ⟨c, h5, hB4⟩
 obtain ⟨L, hL⟩ : ∃ L, L = code.length := ⟨_, rfl⟩
 have hb4 : b < w4.heap.size := by have := hS4.1; omega
 have hLw : IntKind.i64.wrap ((L : Int) + 1) = (L : Int) + 1 := IntWalk.i64_in _ (by omega)
 rw [← hL] at hLN ⊢
 have HL := Lib.hid hL
 have HN := Lib.hid (And.intro hN hN')
 have Hc4 := Lib.hid hc4
 clear hN hN' hc4 hL hl
 refine region_T 13 (by kernel_rfl) (by kernel_rfl) ?_
 simp only [List.take]
 iterate 7 (refine q_val (v := ?_) (by rfl) (fun W hW => ?_) ?_; rotate_left; (focus go_simp; rfl); simp only [Pu])
 refine q_val (v := ?qv8) (by rfl) (fun W hW => ?qh8) ?qr8
 case qh8 => have g1 := (Below.cell hW (p := ⟨B, 0, none⟩) hB4.lt).trans hw4; go_simp; rfl
 simp only [Pu]
 iterate 4 (refine q_val (v := ?_) (by rfl) (fun W hW => ?_) ?_; rotate_left; (focus go_simp; rfl); simp only [Pu])
 refine q_val (v := ?qv13) (by rfl) (fun W hW => ?qh13) ?qr13
 case qh13 => have g2 := (Below.cell hW (p := ⟨b, 4, none⟩) hb4).trans m4; go_simp; rfl
 simp only [Pu]
 refine wpQuiet_nil ?_
 intro w5 hw5
 simp only [List.drop]
 clear hLw
 go_wp2_with (go_at_call 111; refine (splits_false (hB4.gr hw5) (by rw [← HN.out.1]; omega) L (by rw [← HN.out.1]; exact hLN) _ _).mono ?_; rintro e w6 ⟨rfl, hB6, hX6⟩)
 go_end0
 refine ⟨rfl, A4, ?_, (((hX2.trans hX3).trans hX4).trans (WX.gr _ hw5)).trans hX6⟩
 have hNL : (N : Int) = (L : Int) + k.sz + 2 := by have := HN.out.2; have := HL.out; omega
 rw [set_split (v := ⟨2, 0, 0, []⟩) (l := k.lay (L + 1) ++ [⟨3, L, 0, []⟩]) (by rw [Hc4.out, Hc3.out, Hc2.out, HL.out]; simp) HL.out, hNL] at hB6
 exact hB6

set_option maxRecDepth 100000 in
set_option maxHeartbeats 3200000 in
theorem put_star_true {w : World} {B lo hi : Nat} {A : Option Addr} {code : List In} (hB : WrtA w B A code) {b bk : Nat} {kids : Value} {k : Pc} (hl : code.length + k.sz ≤ 1016) (h0 : lo < b) (h1 : b < hi) (h2 : hi ≤ B) (hr : Rkn lo hi w kids [bk]) (hn : Node w b 42 [] kids 0 true) (HK : KidP lo hi B bk w k (code.length + 1)) :
  Calls Tryz.prog 81 #[.pointer (some ⟨B, 0, none⟩), .pointer (some ⟨b, 0, none⟩)] w (RetW w B A (code ++ splitI true (code.length + 1) (code.length + k.sz + 2) :: (k.lay (code.length + 1) ++ [⟨3, code.length, 0, []⟩]))) := by
 obtain ⟨ad, ac, rfl, a0, a1, ha⟩ := hr.kid
 have Ha := Lib.hid ha
 have hful : decide (1024 < (code.length : Int)) = false := by simp; omega
 obtain ⟨n0, n1, n2, n3, n4⟩ := id hn
 go_enter Tryz.func81, Tryz.ntmps81
 go_upto_region 18 with (go_at_call 82; refine (full_any hB).mono ?_; rintro e w1 ⟨rfl, rfl⟩)
 have Hh := Lib.hid hn
 clear hful hn
 go_upto_region 19 with (go_at_call 80; refine (lays_one hB ⟨2, 0, 0, []⟩ (by omega)).mono ?_; rintro e w2 ⟨rfl, A2, hB2, hX2⟩)
 have hS2 := hB.same (lo := lo) hX2 h2
 have hn := Hh.out
 obtain ⟨m0, m1, m2, m3, m4⟩ := hS2.node h0 h1 hn
 have ha2 := hS2.at_ a0 a1 Ha.out
 clear n0 n1 n2 n3 n4 ha hn
 obtain ⟨code2, hc2⟩ : ∃ c, c = code ++ [⟨2, 0, 0, []⟩] := ⟨_, rfl⟩
 rw [← hc2] at hB2
 have hl2 : code2.length = code.length + 1 := by rw [hc2]; simp
 have Hl2 := Lib.hid hl2
 have Hc2 := Lib.hid hc2
 clear hl2 hc2
 go_upto_region 20 with (go_at_call 81; refine (HK _ A2 code2 hB2 hS2 Hl2.out).mono ?_; rintro e w3 ⟨rfl, A3, hB3, hX3⟩)
 have hS3 := hS2.trans (hB2.same (lo := lo) hX3 h2)
 clear m0 m1 m2 m3 m4 ha2 HK
 obtain ⟨code3, hc3⟩ : ∃ c, c = code2 ++ k.lay (code.length + 1) := ⟨_, rfl⟩
 rw [← hc3] at hB3
 have hl3 : code3.length = code.length + 1 + k.sz := by rw [hc3, List.length_append, Hl2.out, Pc.lay_len]
 have hl3' : code3.length ≤ code.length + 1 + k.sz := Nat.le_of_eq hl3
 have Hl3 := Lib.hid hl3
 have Hc3 := Lib.hid hc3
 clear hc3 hl3
 go_upto_region 21 with (go_at_call 80; refine (lays_one hB3 ⟨3, code.length, 0, []⟩ (by omega)).mono ?_; rintro e w4 ⟨rfl, A4, hB4, hX4⟩)
 have hS4 := hS3.trans (hB3.same (lo := lo) hX4 h2)
 have hn := Hh.out
 obtain ⟨m0, m1, m2, m3, m4⟩ := hS4.node h0 h1 hn
 have ha4 := hS4.at_ a0 a1 Ha.out
 clear ha4 hn m0 m1 m2 m3 hl3'
 obtain ⟨code4, hc4⟩ : ∃ c, c = code3 ++ [⟨3, code.length, 0, []⟩] := ⟨_, rfl⟩
 rw [← hc4] at hB4
 obtain ⟨N, hN⟩ : ∃ N, N = code4.length := ⟨_, rfl⟩
 have hN' : N = code.length + k.sz + 2 := by rw [hN, hc4, List.length_append, Hl3.out]; simp; omega
 have hN4 : N ≤ 1020 := by omega
 have hLN : code.length < N := by omega
 obtain ⟨c4, hw4, hB4'⟩ : ∃ c, w4.cell? ⟨B, 0, none⟩ = some (.slice A4 N c) ∧ WrtA w4 B A4 code4 := by
  obtain ⟨c, h5, h6⟩ := id hB4
  rw [← hN] at h5
  exact ⟨c, h5, hB4⟩
 obtain ⟨L, hL⟩ : ∃ L, L = code.length := ⟨_, rfl⟩
 have hb4 : b < w4.heap.size := by have := hS4.1; omega
 have hLw : IntKind.i64.wrap ((L : Int) + 1) = (L : Int) + 1 := IntWalk.i64_in _ (by omega)
 rw [← hL] at hLN ⊢
 have HL := Lib.hid hL
 have HN := Lib.hid (And.intro hN hN')
 have Hc4 := Lib.hid hc4
 clear hN hN' hc4 hL hl
 refine region_T 13 (by kernel_rfl) (by kernel_rfl) ?_
 simp only [List.take]
 iterate 7 (refine q_val (v := ?_) (by rfl) (fun W hW => ?_) ?_; rotate_left; (focus go_simp; rfl); simp only [Pu])
 refine q_val (v := ?qv21) (by rfl) (fun W hW => ?qh21) ?qr21
 case qh21 => have g1 := (Below.cell hW (p := ⟨B, 0, none⟩) hB4.lt).trans hw4; go_simp; rfl
 simp only [Pu]
 iterate 4 (refine q_val (v := ?_) (by rfl) (fun W hW => ?_) ?_; rotate_left; (focus go_simp; rfl); simp only [Pu])
 refine q_val (v := ?qv26) (by rfl) (fun W hW => ?qh26) ?qr26
 case qh26 => have g2 := (Below.cell hW (p := ⟨b, 4, none⟩) hb4).trans m4; go_simp; rfl
 simp only [Pu]
 refine wpQuiet_nil ?_
 intro w5 hw5
 simp only [List.drop]
 clear hLw
 go_wp2_with (go_at_call 111; refine (splits_true (hB4.gr hw5) (by rw [← HN.out.1]; omega) L (by rw [← HN.out.1]; exact hLN) _ _).mono ?_; rintro e w6 ⟨rfl, hB6, hX6⟩)
 go_end0
 refine ⟨rfl, A4, ?_, (((hX2.trans hX3).trans hX4).trans (WX.gr _ hw5)).trans hX6⟩
 have hNL : (N : Int) = (L : Int) + k.sz + 2 := by have := HN.out.2; have := HL.out; omega
 rw [set_split (v := ⟨2, 0, 0, []⟩) (l := k.lay (L + 1) ++ [⟨3, L, 0, []⟩]) (by rw [Hc4.out, Hc3.out, Hc2.out, HL.out]; simp) HL.out, hNL] at hB6
 exact hB6

set_option maxRecDepth 100000 in
set_option maxHeartbeats 3200000 in
theorem put_plus_false {w : World} {B lo hi : Nat} {A : Option Addr} {code : List In} (hB : WrtA w B A code) {b bk : Nat} {kids : Value} {k : Pc} (hl : code.length + k.sz ≤ 1016) (h0 : lo < b) (h1 : b < hi) (h2 : hi ≤ B) (hr : Rkn lo hi w kids [bk]) (hn : Node w b 43 [] kids 0 false) (HK : KidP lo hi B bk w k code.length) :
  Calls Tryz.prog 81 #[.pointer (some ⟨B, 0, none⟩), .pointer (some ⟨b, 0, none⟩)] w (RetW w B A (code ++ (k.lay code.length ++ [splitI false code.length (code.length + k.sz + 1)]))) := by
 obtain ⟨c0, hw0, -⟩ := id hB
 obtain ⟨L, hL⟩ : ∃ L, L = code.length := ⟨_, rfl⟩
 rw [← hL] at hl HK hw0 ⊢
 obtain ⟨ad, ac, rfl, a0, a1, ha⟩ := hr.kid
 have Ha := Lib.hid ha
 have hful : decide (1024 < (code.length : Int)) = false := by simp; omega
 obtain ⟨n0, n1, n2, n3, n4⟩ := id hn
 go_enter Tryz.func81, Tryz.ntmps81
 have HL := Lib.hid hL
 clear hL
 go_upto_region 24 with (go_at_call 82; refine (full_any hB).mono ?_; rintro e w1 ⟨rfl, rfl⟩)
 have Hh := Lib.hid hn
 clear hful hn hw0
 go_upto_region 25 with (go_at_call 81; refine (HK _ A code hB ⟨by have := hB.lt; omega, fun _ _ _ => rfl⟩ HL.out.symm).mono ?_; rintro e w2 ⟨rfl, A2, hB2, hX2⟩)
 have hS2 := hB.same (lo := lo) hX2 h2
 clear n0 n1 n2 n3 n4 ha HK
 obtain ⟨code2, hc2⟩ : ∃ c, c = code ++ k.lay L := ⟨_, rfl⟩
 rw [← hc2] at hB2
 obtain ⟨M, hM⟩ : ∃ M, M = code2.length := ⟨_, rfl⟩
 have hM' : M = L + k.sz := by rw [hM, hc2, List.length_append, ← HL.out, Pc.lay_len]
 have hMl : M ≤ 1016 := by omega
 have hcl : code2.length ≤ 1016 := by omega
 have HM := Lib.hid (And.intro hM hM')
 have Hc2 := Lib.hid hc2
 clear hM hM' hc2
 go_upto_region 26 with (go_at_call 80; refine (lays_one hB2 ⟨2, 0, 0, []⟩ (by omega)).mono ?_; rintro e w3 ⟨rfl, A3, hB3, hX3⟩)
 have hS3 := hS2.trans (hB2.same (lo := lo) hX3 h2)
 have hn := Hh.out
 obtain ⟨m0, m1, m2, m3, m4⟩ := hS3.node h0 h1 hn
 have ha3 := hS3.at_ a0 a1 Ha.out
 clear hn ha3
 rw [← HM.out.1]
 obtain ⟨code3, hc3⟩ : ∃ c, c = code2 ++ [⟨2, 0, 0, []⟩] := ⟨_, rfl⟩
 rw [← hc3] at hB3
 have hl3 : code3.length = M + 1 := by rw [hc3, List.length_append, ← HM.out.1]; rfl
 have Hl3 := Lib.hid hl3
 have Hc3 := Lib.hid hc3
 clear hc3 hl3 hl
 go_wp2_with (go_at_call 111; refine (splits_false hB3 (by rw [Hl3.out]; omega) M (by rw [Hl3.out]; omega) _ _).mono ?_; rintro e w6 ⟨rfl, hB6, hX6⟩)
 go_end0
 refine ⟨rfl, A3, ?_, ((hX2.trans hX3)).trans hX6⟩
 have hNL : (M : Int) = (L : Int) + k.sz := by have := HM.out.2; omega
 rw [set_split (v := ⟨2, 0, 0, []⟩) (l := []) (by rw [Hc3.out]) HM.out.1] at hB6
 rw [Hc2.out, hNL, List.append_assoc] at hB6
 exact hB6

set_option maxRecDepth 100000 in
set_option maxHeartbeats 3200000 in
theorem put_maybe_false {w : World} {B lo hi : Nat} {A : Option Addr} {code : List In} (hB : WrtA w B A code) {b bk : Nat} {kids : Value} {k : Pc} (hl : code.length + k.sz ≤ 1016) (h0 : lo < b) (h1 : b < hi) (h2 : hi ≤ B) (hr : Rkn lo hi w kids [bk]) (hn : Node w b 63 [] kids 0 false) (HK : KidP lo hi B bk w k (code.length + 1)) :
  Calls Tryz.prog 81 #[.pointer (some ⟨B, 0, none⟩), .pointer (some ⟨b, 0, none⟩)] w (RetW w B A (code ++ splitI false (code.length + 1) (code.length + k.sz + 1) :: k.lay (code.length + 1))) := by
 obtain ⟨ad, ac, rfl, a0, a1, ha⟩ := hr.kid
 have Ha := Lib.hid ha
 have hful : decide (1024 < (code.length : Int)) = false := by simp; omega
 obtain ⟨n0, n1, n2, n3, n4⟩ := id hn
 go_enter Tryz.func81, Tryz.ntmps81
 go_upto_region 28 with (go_at_call 82; refine (full_any hB).mono ?_; rintro e w1 ⟨rfl, rfl⟩)
 have Hh := Lib.hid hn
 clear hful hn
 go_upto_region 29 with (go_at_call 80; refine (lays_one hB ⟨2, 0, 0, []⟩ (by omega)).mono ?_; rintro e w2 ⟨rfl, A2, hB2, hX2⟩)
 have hS2 := hB.same (lo := lo) hX2 h2
 have hn := Hh.out
 obtain ⟨m0, m1, m2, m3, m4⟩ := hS2.node h0 h1 hn
 have ha2 := hS2.at_ a0 a1 Ha.out
 clear n0 n1 n2 n3 n4 ha hn
 obtain ⟨code2, hc2⟩ : ∃ c, c = code ++ [⟨2, 0, 0, []⟩] := ⟨_, rfl⟩
 rw [← hc2] at hB2
 have hl2 : code2.length = code.length + 1 := by rw [hc2]; simp
 have Hl2 := Lib.hid hl2
 have Hc2 := Lib.hid hc2
 clear hl2 hc2
 go_upto_region 30 with (go_at_call 81; refine (HK _ A2 code2 hB2 hS2 Hl2.out).mono ?_; rintro e w3 ⟨rfl, A3, hB3, hX3⟩)
 have hS3 := hS2.trans (hB2.same (lo := lo) hX3 h2)
 clear m0 m1 m2 m3 m4 ha2 HK
 have hn := Hh.out
 obtain ⟨m0, m1, m2, m3, m4⟩ := hS3.node h0 h1 hn
 have ha3 := hS3.at_ a0 a1 Ha.out
 clear ha3 hn m0 m1 m2 m3
 obtain ⟨code3, hc3⟩ : ∃ c, c = code2 ++ k.lay (code.length + 1) := ⟨_, rfl⟩
 rw [← hc3] at hB3
 obtain ⟨N, hN⟩ : ∃ N, N = code3.length := ⟨_, rfl⟩
 have hN' : N = code.length + k.sz + 1 := by rw [hN, hc3, List.length_append, Hl2.out, Pc.lay_len]; omega
 have hN4 : N ≤ 1020 := by omega
 have hLN : code.length < N := by omega
 obtain ⟨c3, hw3⟩ : ∃ c, w3.cell? ⟨B, 0, none⟩ = some (.slice A3 N c) := by
  obtain ⟨c, h5, h6⟩ := id hB3
  rw [← hN] at h5
  exact ⟨c, h5⟩
 obtain ⟨L, hL⟩ : ∃ L, L = code.length := ⟨_, rfl⟩
 have hb3 : b < w3.heap.size := by have := hS3.1; omega
 have hLw : IntKind.i64.wrap ((L : Int) + 1) = (L : Int) + 1 := IntWalk.i64_in _ (by omega)
 rw [← hL] at hLN ⊢
 have HL := Lib.hid hL
 have HN := Lib.hid (And.intro hN hN')
 have Hc3 := Lib.hid hc3
 clear hN hN' hc3 hL hl
 refine region_T 13 (by kernel_rfl) (by kernel_rfl) ?_
 simp only [List.take]
 iterate 7 (refine q_val (v := ?_) (by rfl) (fun W hW => ?_) ?_; rotate_left; (focus go_simp; rfl); simp only [Pu])
 refine q_val (v := ?qv34) (by rfl) (fun W hW => ?qh34) ?qr34
 case qh34 => have g1 := (Below.cell hW (p := ⟨B, 0, none⟩) hB3.lt).trans hw3; go_simp; rfl
 simp only [Pu]
 iterate 4 (refine q_val (v := ?_) (by rfl) (fun W hW => ?_) ?_; rotate_left; (focus go_simp; rfl); simp only [Pu])
 refine q_val (v := ?qv39) (by rfl) (fun W hW => ?qh39) ?qr39
 case qh39 => have g2 := (Below.cell hW (p := ⟨b, 4, none⟩) hb3).trans m4; go_simp; rfl
 simp only [Pu]
 refine wpQuiet_nil ?_
 intro w5 hw5
 simp only [List.drop]
 clear hLw
 go_wp2_with (go_at_call 111; refine (splits_false (hB3.gr hw5) (by rw [← HN.out.1]; omega) L (by rw [← HN.out.1]; exact hLN) _ _).mono ?_; rintro e w6 ⟨rfl, hB6, hX6⟩)
 go_end0
 refine ⟨rfl, A3, ?_, ((hX2.trans hX3).trans (WX.gr _ hw5)).trans hX6⟩
 have hNL : (N : Int) = (L : Int) + k.sz + 1 := by have := HN.out.2; have := HL.out; omega
 rw [set_split (v := ⟨2, 0, 0, []⟩) (l := k.lay (L + 1)) (by rw [Hc3.out, Hc2.out, HL.out]; simp) HL.out, hNL] at hB6
 exact hB6

set_option maxRecDepth 100000 in
set_option maxHeartbeats 3200000 in
theorem put_plus_true {w : World} {B lo hi : Nat} {A : Option Addr} {code : List In} (hB : WrtA w B A code) {b bk : Nat} {kids : Value} {k : Pc} (hl : code.length + k.sz ≤ 1016) (h0 : lo < b) (h1 : b < hi) (h2 : hi ≤ B) (hr : Rkn lo hi w kids [bk]) (hn : Node w b 43 [] kids 0 true) (HK : KidP lo hi B bk w k code.length) :
  Calls Tryz.prog 81 #[.pointer (some ⟨B, 0, none⟩), .pointer (some ⟨b, 0, none⟩)] w (RetW w B A (code ++ (k.lay code.length ++ [splitI true code.length (code.length + k.sz + 1)]))) := by
 obtain ⟨c0, hw0, -⟩ := id hB
 obtain ⟨L, hL⟩ : ∃ L, L = code.length := ⟨_, rfl⟩
 rw [← hL] at hl HK hw0 ⊢
 obtain ⟨ad, ac, rfl, a0, a1, ha⟩ := hr.kid
 have Ha := Lib.hid ha
 have hful : decide (1024 < (code.length : Int)) = false := by simp; omega
 obtain ⟨n0, n1, n2, n3, n4⟩ := id hn
 go_enter Tryz.func81, Tryz.ntmps81
 have HL := Lib.hid hL
 clear hL
 go_upto_region 24 with (go_at_call 82; refine (full_any hB).mono ?_; rintro e w1 ⟨rfl, rfl⟩)
 have Hh := Lib.hid hn
 clear hful hn hw0
 go_upto_region 25 with (go_at_call 81; refine (HK _ A code hB ⟨by have := hB.lt; omega, fun _ _ _ => rfl⟩ HL.out.symm).mono ?_; rintro e w2 ⟨rfl, A2, hB2, hX2⟩)
 have hS2 := hB.same (lo := lo) hX2 h2
 clear n0 n1 n2 n3 n4 ha HK
 obtain ⟨code2, hc2⟩ : ∃ c, c = code ++ k.lay L := ⟨_, rfl⟩
 rw [← hc2] at hB2
 obtain ⟨M, hM⟩ : ∃ M, M = code2.length := ⟨_, rfl⟩
 have hM' : M = L + k.sz := by rw [hM, hc2, List.length_append, ← HL.out, Pc.lay_len]
 have hMl : M ≤ 1016 := by omega
 have hcl : code2.length ≤ 1016 := by omega
 have HM := Lib.hid (And.intro hM hM')
 have Hc2 := Lib.hid hc2
 clear hM hM' hc2
 go_upto_region 26 with (go_at_call 80; refine (lays_one hB2 ⟨2, 0, 0, []⟩ (by omega)).mono ?_; rintro e w3 ⟨rfl, A3, hB3, hX3⟩)
 have hS3 := hS2.trans (hB2.same (lo := lo) hX3 h2)
 have hn := Hh.out
 obtain ⟨m0, m1, m2, m3, m4⟩ := hS3.node h0 h1 hn
 have ha3 := hS3.at_ a0 a1 Ha.out
 clear hn ha3
 rw [← HM.out.1]
 obtain ⟨code3, hc3⟩ : ∃ c, c = code2 ++ [⟨2, 0, 0, []⟩] := ⟨_, rfl⟩
 rw [← hc3] at hB3
 have hl3 : code3.length = M + 1 := by rw [hc3, List.length_append, ← HM.out.1]; rfl
 have Hl3 := Lib.hid hl3
 have Hc3 := Lib.hid hc3
 clear hc3 hl3 hl
 go_wp2_with (go_at_call 111; refine (splits_true hB3 (by rw [Hl3.out]; omega) M (by rw [Hl3.out]; omega) _ _).mono ?_; rintro e w6 ⟨rfl, hB6, hX6⟩)
 go_end0
 refine ⟨rfl, A3, ?_, ((hX2.trans hX3)).trans hX6⟩
 have hNL : (M : Int) = (L : Int) + k.sz := by have := HM.out.2; omega
 rw [set_split (v := ⟨2, 0, 0, []⟩) (l := []) (by rw [Hc3.out]) HM.out.1] at hB6
 rw [Hc2.out, hNL, List.append_assoc] at hB6
 exact hB6

set_option maxRecDepth 100000 in
set_option maxHeartbeats 3200000 in
theorem put_maybe_true {w : World} {B lo hi : Nat} {A : Option Addr} {code : List In} (hB : WrtA w B A code) {b bk : Nat} {kids : Value} {k : Pc} (hl : code.length + k.sz ≤ 1016) (h0 : lo < b) (h1 : b < hi) (h2 : hi ≤ B) (hr : Rkn lo hi w kids [bk]) (hn : Node w b 63 [] kids 0 true) (HK : KidP lo hi B bk w k (code.length + 1)) :
  Calls Tryz.prog 81 #[.pointer (some ⟨B, 0, none⟩), .pointer (some ⟨b, 0, none⟩)] w (RetW w B A (code ++ splitI true (code.length + 1) (code.length + k.sz + 1) :: k.lay (code.length + 1))) := by
 obtain ⟨ad, ac, rfl, a0, a1, ha⟩ := hr.kid
 have Ha := Lib.hid ha
 have hful : decide (1024 < (code.length : Int)) = false := by simp; omega
 obtain ⟨n0, n1, n2, n3, n4⟩ := id hn
 go_enter Tryz.func81, Tryz.ntmps81
 go_upto_region 28 with (go_at_call 82; refine (full_any hB).mono ?_; rintro e w1 ⟨rfl, rfl⟩)
 have Hh := Lib.hid hn
 clear hful hn
 go_upto_region 29 with (go_at_call 80; refine (lays_one hB ⟨2, 0, 0, []⟩ (by omega)).mono ?_; rintro e w2 ⟨rfl, A2, hB2, hX2⟩)
 have hS2 := hB.same (lo := lo) hX2 h2
 have hn := Hh.out
 obtain ⟨m0, m1, m2, m3, m4⟩ := hS2.node h0 h1 hn
 have ha2 := hS2.at_ a0 a1 Ha.out
 clear n0 n1 n2 n3 n4 ha hn
 obtain ⟨code2, hc2⟩ : ∃ c, c = code ++ [⟨2, 0, 0, []⟩] := ⟨_, rfl⟩
 rw [← hc2] at hB2
 have hl2 : code2.length = code.length + 1 := by rw [hc2]; simp
 have Hl2 := Lib.hid hl2
 have Hc2 := Lib.hid hc2
 clear hl2 hc2
 go_upto_region 30 with (go_at_call 81; refine (HK _ A2 code2 hB2 hS2 Hl2.out).mono ?_; rintro e w3 ⟨rfl, A3, hB3, hX3⟩)
 have hS3 := hS2.trans (hB2.same (lo := lo) hX3 h2)
 clear m0 m1 m2 m3 m4 ha2 HK
 have hn := Hh.out
 obtain ⟨m0, m1, m2, m3, m4⟩ := hS3.node h0 h1 hn
 have ha3 := hS3.at_ a0 a1 Ha.out
 clear ha3 hn m0 m1 m2 m3
 obtain ⟨code3, hc3⟩ : ∃ c, c = code2 ++ k.lay (code.length + 1) := ⟨_, rfl⟩
 rw [← hc3] at hB3
 obtain ⟨N, hN⟩ : ∃ N, N = code3.length := ⟨_, rfl⟩
 have hN' : N = code.length + k.sz + 1 := by rw [hN, hc3, List.length_append, Hl2.out, Pc.lay_len]; omega
 have hN4 : N ≤ 1020 := by omega
 have hLN : code.length < N := by omega
 obtain ⟨c3, hw3⟩ : ∃ c, w3.cell? ⟨B, 0, none⟩ = some (.slice A3 N c) := by
  obtain ⟨c, h5, h6⟩ := id hB3
  rw [← hN] at h5
  exact ⟨c, h5⟩
 obtain ⟨L, hL⟩ : ∃ L, L = code.length := ⟨_, rfl⟩
 have hb3 : b < w3.heap.size := by have := hS3.1; omega
 have hLw : IntKind.i64.wrap ((L : Int) + 1) = (L : Int) + 1 := IntWalk.i64_in _ (by omega)
 rw [← hL] at hLN ⊢
 have HL := Lib.hid hL
 have HN := Lib.hid (And.intro hN hN')
 have Hc3 := Lib.hid hc3
 clear hN hN' hc3 hL hl
 refine region_T 13 (by kernel_rfl) (by kernel_rfl) ?_
 simp only [List.take]
 iterate 7 (refine q_val (v := ?_) (by rfl) (fun W hW => ?_) ?_; rotate_left; (focus go_simp; rfl); simp only [Pu])
 refine q_val (v := ?qv47) (by rfl) (fun W hW => ?qh47) ?qr47
 case qh47 => have g1 := (Below.cell hW (p := ⟨B, 0, none⟩) hB3.lt).trans hw3; go_simp; rfl
 simp only [Pu]
 iterate 4 (refine q_val (v := ?_) (by rfl) (fun W hW => ?_) ?_; rotate_left; (focus go_simp; rfl); simp only [Pu])
 refine q_val (v := ?qv52) (by rfl) (fun W hW => ?qh52) ?qr52
 case qh52 => have g2 := (Below.cell hW (p := ⟨b, 4, none⟩) hb3).trans m4; go_simp; rfl
 simp only [Pu]
 refine wpQuiet_nil ?_
 intro w5 hw5
 simp only [List.drop]
 clear hLw
 go_wp2_with (go_at_call 111; refine (splits_true (hB3.gr hw5) (by rw [← HN.out.1]; omega) L (by rw [← HN.out.1]; exact hLN) _ _).mono ?_; rintro e w6 ⟨rfl, hB6, hX6⟩)
 go_end0
 refine ⟨rfl, A3, ?_, ((hX2.trans hX3).trans (WX.gr _ hw5)).trans hX6⟩
 have hNL : (N : Int) = (L : Int) + k.sz + 1 := by have := HN.out.2; have := HL.out; omega
 rw [set_split (v := ⟨2, 0, 0, []⟩) (l := k.lay (L + 1)) (by rw [Hc3.out, Hc2.out, HL.out]; simp) HL.out, hNL] at hB6
 exact hB6

end Go.Proofs.YtjapddfnpmlifaaGreatDoor
