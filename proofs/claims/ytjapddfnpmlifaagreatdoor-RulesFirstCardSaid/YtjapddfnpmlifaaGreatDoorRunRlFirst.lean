/- RulesFirst: the first schema that is found in a name counts. · How the arguments of this seat's laws are opened for the walks. · What a row that lists tables is opened by: the listed data and the world's shape, both handed on. -/
import Derived.Test.YtjapddfnpmlifaaGreatDoorRunPkSz
import Derived.Test.YtjapddfnpmlifaaGreatDoorRunRuSize
import Derived.Test.YtjapddfnpmlifaaGreatDoorRows
import Derived.ProofKit
import Derived.Lib.SmallJoins
import Derived.Deep.SlicePairs
import Derived.Carry
import Derived.ShutString
import Derived.HandedShaped
import Derived.Shelf.Vars
import Derived.OpenShut
import Derived.LaidMore
import Derived.Lay
import Derived.SevenTiedAt
import Derived.Stop.Joined
import Derived.Test.YtjapddfnpmlifaaGreatDoorRunRuIntv
namespace Go.Proofs.YtjapddfnpmlifaaGreatDoor
set_option linter.unusedVariables false
set_option linter.unusedSimpArgs false
open Go.RowKit

theorem hd_rows {l : List Sc} {a b : Nat} {m : Nat} (h : l.map (fun s => (s.pat, s.ar)) = (⟨#[97]⟩, [(a, b)]) :: rrows m) :
  l.length = m + 1 ∧ (∀ s ∈ l, s.pat.size ≤ 500 ∧ 0 < s.ar.length ∧ s.ar.length ≤ 1000) ∧ (∀ (h0 : 0 < l.length), l[0].pat = ⟨#[97]⟩ ∧ l[0].ar = [(a, b)]) ∧ ∀ (j : Nat) (hj : j < l.length), 0 < j → l[j].pat = ⟨#[46]⟩ ∧ l[j].ar = [(7, 7)] := by
 have hlen : l.length = m + 1 := by
  have := congrArg List.length h
  rw [List.length_map, List.length_cons, rrows_len] at this
  exact this
 have hz : ∀ (h0 : 0 < l.length), l[0].pat = ⟨#[97]⟩ ∧ l[0].ar = [(a, b)] := fun h0 => by
  have : (l.map (fun s => (s.pat, s.ar)))[0]'(by simpa using h0) = (⟨#[97]⟩, [(a, b)]) := by simp [h]
  rw [List.getElem_map] at this
  injection this with h1 h2
  exact ⟨h1, h2⟩
 have hp : ∀ (j : Nat) (hj : j < l.length), 0 < j → l[j].pat = ⟨#[46]⟩ ∧ l[j].ar = [(7, 7)] := fun j hj h0 => by
  obtain ⟨i, rfl⟩ : ∃ i, j = i + 1 := ⟨j - 1, by omega⟩
  have e : (l.map (fun s => (s.pat, s.ar)))[i + 1]'(by simpa using hj) = (rrows m)[i]'(by rw [rrows_len]; omega) := by simp [h]
  have := rrows_mem m _ (List.getElem_mem (by rw [rrows_len]; omega : i < (rrows m).length))
  rw [List.getElem_map, this] at e
  injection e with h1 h2
  exact ⟨h1, h2⟩
 refine ⟨hlen, fun s hs => ?_, hz, hp⟩
 obtain ⟨j, hj, rfl⟩ := List.mem_iff_getElem.1 hs
 rcases Nat.eq_zero_or_pos j with rfl | h0
 ·
  obtain ⟨h1, h2⟩ := hz hj
  rw [h1, h2]
  exact ⟨by decide, by simp, by simp⟩
 ·
  obtain ⟨h1, h2⟩ := hp j hj h0
  rw [h1, h2]
  exact ⟨by decide, by simp, by simp⟩
/-- what Header answers here. -/
def HdS (a b m : Nat) (t : List UInt8) : Option (List (Nat × Nat)) := bif anyA t then some [(a, b)] else bif Nat.ble 1 m && anyDot t then some [(7, 7)] else none
def RetH25 (x : Option (List (Nat × Nat))) (w : World) (e : Ending) (w' : World) : Prop :=
 Gr w w' ∧ match x with
  | none => e = .returned (.tuple #[.agg #[.int .i64 0, .int .i64 0, .slice none 0 0], .bool false])
  | some l => ∃ A c, e = .returned (.tuple #[.agg #[.int .i64 1, .int .i64 500000, .slice A l.length c], .bool true]) ∧ Ra w' A l
theorem hd25 {l : List Sc} {a b m : Nat} (hr : l.map (fun s => (s.pat, s.ar)) = (⟨#[97]⟩, [(a, b)]) :: rrows m) {nm : ByteArray} {w w' : World} {e : Ending} (h : RetHd l nm w e w') : RetH25 (HdS a b m nm.data.toList) w e w' := by
 obtain ⟨hlen, -, hz, hp⟩ := hd_rows hr
 obtain ⟨g, h⟩ := h
 have c0 : ∀ h0 : 0 < l.length, isC l[0].code nm.data.toList = anyA nm.data.toList := fun h0 => by
  unfold Sc.code
  rw [(hz h0).1]
  exact is_a _
 have cj : ∀ (j : Nat) (hj : j < l.length), 0 < j → isC l[j].code nm.data.toList = anyDot nm.data.toList := fun j hj h0 => by
  unfold Sc.code
  rw [(hp j hj h0).1]
  exact is_dot _
 refine ⟨g, ?_⟩
 rcases h with ⟨hno, he⟩ | ⟨j, hj, A', c', hy, hf, he, hra⟩
 ·
  have ha : anyA nm.data.toList = false := by rw [← c0 (by omega)]; exact hno _ (List.getElem_mem _)
  have hd : (Nat.ble 1 m && anyDot nm.data.toList) = false := by
   rcases Nat.eq_zero_or_pos m with h0 | h0
   ·
    subst h0; rfl
   ·
    have : anyDot nm.data.toList = false := by rw [← cj 1 (by omega) (by omega)]; exact hno _ (List.getElem_mem _)
    rw [this, Bool.and_false]
  unfold HdS
  rw [ha, hd]
  exact he
 ·
  rcases Nat.eq_zero_or_pos j with rfl | h0
  ·
   have ha : anyA nm.data.toList = true := by rw [← c0 hj]; exact hy
   unfold HdS
   rw [ha]
   have e2 := (hz hj).2
   rw [e2] at he hra
   exact ⟨A', c', he, hra⟩
  ·
   have ha : anyA nm.data.toList = false := by rw [← c0 (by omega)]; exact hf 0 (by omega) h0
   have hd : anyDot nm.data.toList = true := by rw [← cj j hj h0]; exact hy
   have hm : Nat.ble 1 m = true := by rw [Nat.ble_eq]; omega
   unfold HdS
   rw [ha, hd, hm]
   have e2 := (hp j hj h0).2
   rw [e2] at he hra
   exact ⟨A', c', he, hra⟩
set_option maxRecDepth 100000 in
set_option maxHeartbeats 6400000 in
theorem law_RulesFirst (x y : Int) (nm : ByteArray) (z : Int) (w : World) (hm : Ml w) : Calls Tryz.prog 3 #[.int .i64 x, .int .i64 y, .string nm, .int .i64 z] w fun e w' => e = .returned (.bool true) ∧ Gr w w' := by
 by_cases h1 : x < 1
 ·
  clear hm
  go_enter Tryz.func3, Tryz.ntmps3
  go_wp2
  go_ret
  exact ⟨rfl, Gr.refl _⟩
 by_cases h2 : 1000 < x
 ·
  clear hm
  go_enter Tryz.func3, Tryz.ntmps3
  go_wp2
  go_ret
  exact ⟨rfl, Gr.refl _⟩
 by_cases h3 : y < 1
 ·
  clear hm
  go_enter Tryz.func3, Tryz.ntmps3
  go_wp2
  go_ret
  exact ⟨rfl, Gr.refl _⟩
 by_cases h4 : 1000 < y
 ·
  clear hm
  go_enter Tryz.func3, Tryz.ntmps3
  go_wp2
  go_ret
  exact ⟨rfl, Gr.refl _⟩
 by_cases h5 : (100 : Int) < (nm.size : Int)
 ·
  clear hm
  go_enter Tryz.func3, Tryz.ntmps3
  go_wp2
  go_ret
  exact ⟨rfl, Gr.refl _⟩
 by_cases h6 : z < 0
 ·
  clear hm
  go_enter Tryz.func3, Tryz.ntmps3
  go_wp2
  go_ret
  exact ⟨rfl, Gr.refl _⟩
 by_cases h7 : 20 < z
 ·
  clear hm
  go_enter Tryz.func3, Tryz.ntmps3
  go_wp2
  go_ret
  exact ⟨rfl, Gr.refl _⟩
 obtain ⟨a, rfl⟩ : ∃ a : Nat, x = a := ⟨x.toNat, by omega⟩
 obtain ⟨b, rfl⟩ : ∃ b : Nat, y = b := ⟨y.toNat, by omega⟩
 obtain ⟨m, rfl⟩ : ∃ m : Nat, z = m := ⟨z.toNat, by omega⟩
 obtain ⟨Da, hDa⟩ : ∃ Da : ByteArray, Da = ⟨(digsN a).toArray⟩ := ⟨_, rfl⟩
 obtain ⟨Db, hDb⟩ : ∃ Db : ByteArray, Db = ⟨(digsN b).toArray⟩ := ⟨_, rfl⟩
 have za : Da.size ≤ 4 := by
  rw [hDa]; show (digsN a).toArray.size ≤ 4
  rw [List.size_toArray]; exact (digs_ok (by omega)).2.2.2
 have zb : Db.size ≤ 4 := by
  rw [hDb]; show (digsN b).toArray.size ≤ 4
  rw [List.size_toArray]; exact (digs_ok (by omega)).2.2.2
 have HDa := Lib.hid (fun w => digits_any a (by omega) w)
 have HDb := Lib.hid (fun w => digits_any b (by omega) w)
 rw [← hDa] at HDa
 rw [← hDb] at HDb
 have e18 : (⟨#[35, 32, 102, 105, 114, 115, 116, 10, 10, 115, 99, 104, 101, 109, 97, 32, 97, 32]⟩ : ByteArray).size = 18 := rfl
 have e58 : (⟨#[58]⟩ : ByteArray).size = 1 := rfl
 have e10 : (⟨#[10]⟩ : ByteArray).size = 1 := rfl
 have s1 : ((((⟨#[35, 32, 102, 105, 114, 115, 116, 10, 10, 115, 99, 104, 101, 109, 97, 32, 97, 32]⟩ : ByteArray) ++ Da).size : Nat) : Int) ≤ 100 := by rw [ByteArray.size_append, e18]; omega
 have s2 : (((((⟨#[35, 32, 102, 105, 114, 115, 116, 10, 10, 115, 99, 104, 101, 109, 97, 32, 97, 32]⟩ : ByteArray) ++ Da) ++ (⟨#[58]⟩ : ByteArray)).size : Nat) : Int) ≤ 100 := by rw [ByteArray.size_append, ByteArray.size_append, e18, e58]; omega
 have s3 : ((((((⟨#[35, 32, 102, 105, 114, 115, 116, 10, 10, 115, 99, 104, 101, 109, 97, 32, 97, 32]⟩ : ByteArray) ++ Da) ++ (⟨#[58]⟩ : ByteArray)) ++ Db).size : Nat) : Int) ≤ 100 := by rw [ByteArray.size_append, ByteArray.size_append, ByteArray.size_append, e18, e58]; omega
 have s4 : (((((((⟨#[35, 32, 102, 105, 114, 115, 116, 10, 10, 115, 99, 104, 101, 109, 97, 32, 97, 32]⟩ : ByteArray) ++ Da) ++ (⟨#[58]⟩ : ByteArray)) ++ Db) ++ (⟨#[10]⟩ : ByteArray)).size : Nat) : Int) ≤ 100 := by rw [ByteArray.size_append, ByteArray.size_append, ByteArray.size_append, ByteArray.size_append, e18, e58, e10]; omega
 have HT0 : Hid ((((((⟨#[35, 32, 102, 105, 114, 115, 116, 10, 10, 115, 99, 104, 101, 109, 97, 32, 97, 32]⟩ : ByteArray) ++ Da) ++ (⟨#[58]⟩ : ByteArray)) ++ Db) ++ (⟨#[10]⟩ : ByteArray) : ByteArray).data.toList = txt0 a b ++ reps 0) := Lib.hid (by rw [hDa, hDb]; simp [txt0, c18, reps])
 have HM := Lib.hid hm
 have hnm : (nm.size : Int) ≤ 100 := by omega
 have zai : (Da.size : Int) ≤ 4 := by omega
 have zbi : (Db.size : Int) ≤ 4 := by omega
 clear hm hDa hDb e18 e58 e10 za zb
 go_enter Tryz.func3, Tryz.ntmps3
 go_upto_region 4 with (first | (go_at_call 5; refine (HDa.out _).mono ?_; clear HDa; rintro e w1 ⟨rfl, g1⟩; have G1 := Lib.hid g1; clear g1) | (go_at_call 5; refine (HDb.out _).mono ?_; rintro e w2 ⟨rfl, g2⟩; have G2 := Lib.hid g2; clear g2))
 generalize ((((⟨#[35, 32, 102, 105, 114, 115, 116, 10, 10, 115, 99, 104, 101, 109, 97, 32, 97, 32]⟩ : ByteArray) ++ Da) ++ (⟨#[58]⟩ : ByteArray)) ++ Db) ++ (⟨#[10]⟩ : ByteArray) = T0 at *
 clear s1 s2 s3
 have HG0 := Lib.hid (G1.out.trans G2.out)
 go_wp2
 go_loopw [9, 10] (fun t i wr => ∃ (k : Nat) (T : ByteArray), k ≤ m ∧ i = .int .i64 k ∧ t = .string T ∧ T.data.toList = txt0 a b ++ reps k ∧ Gr w wr) (fun _ i _ => m - (intOf i).toNat)
 case atStart => exact ⟨0, T0, Nat.zero_le _, rfl, rfl, HT0.out, HG0.out⟩
 case round =>
  obtain ⟨k, T, hk, rfl, rfl, hT, hgr⟩ := hrel
  have hTz : (T.size : Int) ≤ 600 := by
   have e : T.size = T.data.toList.length := by simp
   have hl : (txt0 a b).length ≤ 28 := by
    have h1 := (digs_ok (n := a) (by omega)).2.2.2
    have h2 := (digs_ok (n := b) (by omega)).2.2.2
    have h3 : c18.length = 18 := rfl
    simp only [txt0, List.length_append, List.length_cons, List.length_nil]
    omega
   rw [e, hT, List.length_append, reps_len]
   omega
  have HT := Lib.hid hT
  have Hgr := Lib.hid hgr
  clear hT hgr
  by_cases hlt : k < m
  ·
   have hki : (k : Int) < (m : Int) := by omega
   have e15 : (⟨#[115, 99, 104, 101, 109, 97, 32, 46, 32, 55, 58, 55, 10, 35, 10]⟩ : ByteArray).size = 15 := rfl
   have s5 : (((T ++ (⟨#[115, 99, 104, 101, 109, 97, 32, 46, 32, 55, 58, 55, 10, 35, 10]⟩ : ByteArray)).size : Nat) : Int) ≤ 1000 := by rw [ByteArray.size_append, e15]; omega
   have HT2 : Hid ((T ++ (⟨#[115, 99, 104, 101, 109, 97, 32, 46, 32, 55, 58, 55, 10, 35, 10]⟩ : ByteArray)).data.toList = txt0 a b ++ reps (k + 1)) := Lib.hid (by
    rw [reps_snoc, ← List.append_assoc, ← HT.out]; simp [c15])
   clear e15
   go_wp2
   go_roundw
   case rel => exact ⟨k + 1, _, by omega, by go_num, rfl, HT2.out, Hgr.out⟩
   case measure => simp [intOf]; omega
  ·
   have hkm : k = m := by omega
   subst hkm
   have hge : ¬ (k : Int) < (k : Int) := by omega
   have hF := lineF_all (a := a) (b := b) (by omega) (by omega) (by omega) (by omega) k
   have hR := rows_txt (a := a) (b := b) (by omega) (by omega) k
   rw [← HT.out] at hF hR
   have HPA := Lib.hid (parse_any (rowF25 a b) T (by omega) hF (by rw [hR, List.length_cons, rrows_len]; omega) wr (HM.out.gr Hgr.out))
   rw [hR] at HPA
   have HN := Lib.hid hnm
   clear hF hR hlt
   go_upto_region 9 with (go_at_call 6; refine HPA.out.mono ?_; rintro e w3 ⟨R, B0, A, c, l, rfl, hRs, hl⟩)
   obtain ⟨hlen, hsz, -, -⟩ := hd_rows hl
   have HHD := Lib.hid (((header_any hRs (by omega) (by omega) nm (by omega) (fun s hs => (hsz s hs).1) (fun s hs => (hsz s hs).2))).mono (R' := RetH25 (HdS a b k nm.data.toList) w3) fun e w' h => hd25 hl h)
   have G3 := Lib.hid (Hgr.out.trans hRs.gr)
   clear hRs hl hlen hsz HPA
   have HNn : Hid (nm.size < 1000) := Lib.hid (by omega)
   cases hA : anyA nm.data.toList
   ·
    cases hD : (Nat.ble 1 k && anyDot nm.data.toList)
    ·
     have e : HdS a b k nm.data.toList = none := by unfold HdS; rw [hA, hD]; rfl
     rw [e] at HHD
     have HAny := Lib.hid hA
     have HDt := Lib.hid hD
     have HDD := Lib.hid (fun w => dot_any nm (by omega) w)
     clear e hA hD
     go_upto_region 12 with (go_at_call 7; refine HHD.out.mono ?_; rintro e w4 ⟨g4, rfl⟩; have G4 := Lib.hid g4; clear g4)
     go_wp2
     go_loop [15, 16] (fun h i => ∃ j : Nat, j ≤ nm.size ∧ i = .int .i64 j ∧ h = .bool (anyA (nm.data.toList.take j))) (fun _ i => nm.size - (intOf i).toNat)
     case atStart => exact ⟨0, Nat.zero_le _, rfl, rfl⟩
     case round =>
      obtain ⟨j, hj, rfl, rfl⟩ := hrel
      by_cases hjl : j < nm.size
      ·
       have hji : (j : Int) < (nm.size : Int) := by omega
       have Ht := anyA_take nm j hjl
       cases hb : anyA (nm.data.toList.take j)
       ·
        rw [hb, Bool.false_or] at Ht
        have HTk := Lib.hid Ht
        clear Ht hb
        go_wp2
        go_round
        case rel => exact ⟨j + 1, by omega, by go_num, by rw [HTk.out]⟩
        case measure => simp [intOf]; omega
       ·
        rw [hb, Bool.true_or] at Ht
        have HTk := Lib.hid Ht
        clear Ht hb
        go_wp2
        go_round
        case rel => exact ⟨j + 1, by omega, by go_num, by rw [HTk.out]⟩
        case measure => simp [intOf]; omega
      ·
       have hjg : ¬ (j : Int) < (nm.size : Int) := by omega
       have hjn : anyA (nm.data.toList.take j) = false := by rw [List.take_of_length_le (by simp; omega)]; exact HAny.out
       rw [hjn]
       clear hjn
       have hk1 : (0 < (k : Int)) ∨ ¬ (0 < (k : Int)) := Classical.em _
       rcases hk1 with hk1 | hk1
       ·
        have hdn : anyDot nm.data.toList = false := by
         have := HDt.out
         rwa [show Nat.ble 1 k = true from by rw [Nat.ble_eq]; omega, Bool.true_and] at this
        rw [hdn] at HDD
        clear hdn
        go_wp2_with (first | (go_at_call 10; refine (HDD.out _).mono ?_; rintro e w5 ⟨rfl, rfl⟩) | (go_at_call 9; refine (known25_any _ (HM.out.gr ((G3.out.trans G4.out).alloc _))).mono ?_; rintro e w6 ⟨rfl, g6⟩; have G6 := Lib.hid g6; clear g6))
        go_ret
        exact ⟨rfl, (((G3.out.trans G4.out).alloc _).trans G6.out)⟩
       ·
        go_wp2_with (first | (go_at_call 10; refine (HDD.out _).mono ?_; rintro e w5 ⟨rfl, rfl⟩) | (go_at_call 9; refine (known25_any _ (HM.out.gr ((G3.out.trans G4.out).alloc _))).mono ?_; rintro e w6 ⟨rfl, g6⟩; have G6 := Lib.hid g6; clear g6))
        go_ret
        exact ⟨rfl, (((G3.out.trans G4.out).alloc _).trans G6.out)⟩
    ·
     have e : HdS a b k nm.data.toList = some [(7, 7)] := by unfold HdS; rw [hA, hD]; rfl
     rw [e] at HHD
     have HAny := Lib.hid hA
     rw [Bool.and_eq_true, Nat.ble_eq] at hD
     have hk1 : (0 : Int) < (k : Int) := by omega
     have HDD := Lib.hid (fun w => dot_any nm (by omega) w)
     rw [hD.2] at HDD
     clear e hA hD
     go_upto_region 12 with (go_at_call 7; refine HHD.out.mono ?_; rintro e w4 ⟨g4, A', c', rfl, hra⟩; have G4 := Lib.hid g4; have HRa := Lib.hid hra; clear g4 hra)
     go_wp2
     go_loop [15, 16] (fun h i => ∃ j : Nat, j ≤ nm.size ∧ i = .int .i64 j ∧ h = .bool (anyA (nm.data.toList.take j))) (fun _ i => nm.size - (intOf i).toNat)
     case atStart => exact ⟨0, Nat.zero_le _, rfl, rfl⟩
     case round =>
      obtain ⟨j, hj, rfl, rfl⟩ := hrel
      by_cases hjl : j < nm.size
      ·
       have hji : (j : Int) < (nm.size : Int) := by omega
       have Ht := anyA_take nm j hjl
       cases hb : anyA (nm.data.toList.take j)
       ·
        rw [hb, Bool.false_or] at Ht
        have HTk := Lib.hid Ht
        clear Ht hb
        go_wp2
        go_round
        case rel => exact ⟨j + 1, by omega, by go_num, by rw [HTk.out]⟩
        case measure => simp [intOf]; omega
       ·
        rw [hb, Bool.true_or] at Ht
        have HTk := Lib.hid Ht
        clear Ht hb
        go_wp2
        go_round
        case rel => exact ⟨j + 1, by omega, by go_num, by rw [HTk.out]⟩
        case measure => simp [intOf]; omega
      ·
       have hjg : ¬ (j : Int) < (nm.size : Int) := by omega
       have hjn : anyA (nm.data.toList.take j) = false := by rw [List.take_of_length_le (by simp; omega)]; exact HAny.out
       rw [hjn]
       clear hjn
       go_wp2_with (first | (go_at_call 10; refine (HDD.out _).mono ?_; rintro e w7 ⟨rfl, rfl⟩) | (go_at_call 8; refine (headers_same A' (some ⟨w4.heap.size + 1, 0, none⟩) c' 1 [(7, 7)] (by simp) _ (HRa.out.gr (Gr.alloc (Gr.alloc (Gr.refl w4) _) _)) (Ra.lit (by simp) _ _ _ _ rfl rfl)).mono ?_; rintro e w5 ⟨rfl, g5⟩; have G5 := Lib.hid g5; clear g5) | (go_at_call 9; refine (known25_any _ (HM.out.gr (((((G3.out.trans G4.out).alloc _).alloc _).trans G5.out)))).mono ?_; rintro e w6 ⟨rfl, g6⟩; have G6 := Lib.hid g6; clear g6))
       go_ret
       exact ⟨rfl, ((((G3.out.trans G4.out).alloc _).alloc _).trans G5.out).trans G6.out⟩
   ·
    have e : HdS a b k nm.data.toList = some [(a, b)] := by unfold HdS; rw [hA]; rfl
    rw [e] at HHD
    have HAny := Lib.hid hA
    clear e hA
    go_upto_region 12 with (go_at_call 7; refine HHD.out.mono ?_; rintro e w4 ⟨g4, A', c', rfl, hra⟩; have G4 := Lib.hid g4; have HRa := Lib.hid hra; clear g4 hra)
    go_wp2
    go_loop [15, 16] (fun h i => ∃ j : Nat, j ≤ nm.size ∧ i = .int .i64 j ∧ h = .bool (anyA (nm.data.toList.take j))) (fun _ i => nm.size - (intOf i).toNat)
    case atStart => exact ⟨0, Nat.zero_le _, rfl, rfl⟩
    case round =>
     obtain ⟨j, hj, rfl, rfl⟩ := hrel
     by_cases hjl : j < nm.size
     ·
      have hji : (j : Int) < (nm.size : Int) := by omega
      have Ht := anyA_take nm j hjl
      cases hb : anyA (nm.data.toList.take j)
      ·
       rw [hb, Bool.false_or] at Ht
       have HTk := Lib.hid Ht
       clear Ht hb
       go_wp2
       go_round
       case rel => exact ⟨j + 1, by omega, by go_num, by rw [HTk.out]⟩
       case measure => simp [intOf]; omega
      ·
       rw [hb, Bool.true_or] at Ht
       have HTk := Lib.hid Ht
       clear Ht hb
       go_wp2
       go_round
       case rel => exact ⟨j + 1, by omega, by go_num, by rw [HTk.out]⟩
       case measure => simp [intOf]; omega
     ·
      have hjg : ¬ (j : Int) < (nm.size : Int) := by omega
      have hjn : anyA (nm.data.toList.take j) = true := by rw [List.take_of_length_le (by simp; omega)]; exact HAny.out
      rw [hjn]
      clear hjn
      go_wp2_with (first | (go_at_call 8; refine (headers_same A' (some ⟨w4.heap.size + 1, 0, none⟩) c' 1 [(a, b)] (by simp) _ (HRa.out.gr (Gr.alloc (Gr.alloc (Gr.refl w4) _) _)) (Ra.lit (by simp) _ _ _ _ rfl rfl)).mono ?_; rintro e w5 ⟨rfl, g5⟩; have G5 := Lib.hid g5; clear g5) | (go_at_call 9; refine (known25_any _ (HM.out.gr (((((G3.out.trans G4.out).alloc _).alloc _).trans G5.out)))).mono ?_; rintro e w6 ⟨rfl, g6⟩; have G6 := Lib.hid g6; clear g6))
      go_ret
      exact ⟨rfl, ((((G3.out.trans G4.out).alloc _).alloc _).trans G5.out).trans G6.out⟩
end Go.Proofs.YtjapddfnpmlifaaGreatDoor
namespace Go.Proofs.YtjapddfnpmlifaaGreatDoor
set_option maxRecDepth 100000
open Go.ChangeShapes Go.WideShapes Go.ChangeAt Go.RowKit Go.Joins
open Go.Deep (open_slice_pairs)

theorem own_knob : ownKnob Tryz.prog.godebug = none := by kernel_rfl
theorem laid_out : laidOutB Tryz.prog = true := by kernel_rfl
theorem i64_lo {n : Int} (h : (Lit.int .i64 n).wf = true) : -9223372036854775808 ≤ n := by
 simp [Lit.wf, IntKind.min, IntKind.max, IntKind.signed, IntKind.bits] at h; omega
theorem i64_hi {n : Int} (h : (Lit.int .i64 n).wf = true) : n ≤ 9223372036854775807 := by
 simp [Lit.wf, IntKind.min, IntKind.max, IntKind.signed, IntKind.bits] at h; omega

/-- a number that fits an int. -/
def I64 (n : Int) : Prop := -9223372036854775808 ≤ n ∧ n ≤ 9223372036854775807
end Go.Proofs.YtjapddfnpmlifaaGreatDoor
namespace Go.Proofs.YtjapddfnpmlifaaGreatDoor
set_option linter.unusedVariables false
set_option linter.unusedSimpArgs false
open Go
set_option maxRecDepth 100000

theorem handed_laid {H : Type} {enc : TypeId × Value → H} {a : Assume} {C : Checked} {os : Os} {f : FuncId} {fn : Func} {s : ChangeSpec} {conds : List PathCond} {apart fresh handsOn again : Bool} {X : World → Array Value → Prop}
  (hX : ∀ (w w' : World) (args : Array Value), w.heap = w'.heap → X w args → X w' args)
  (own : ownKnob C.prog.godebug = none) (started : os.Started) (noInit : C.prog.inits.idxOf? f = none) (hfn : C.prog.funcs[f]? = some fn)
  (wit : ∃ (w : World) (tape : Tape) (i : Input), w.os = os ∧ (w.forCall tape i).Shaped C.prog ∧ i.vars = [] ∧ Input.okWide C.prog (w.forCall tape i) .any w.heap.size f i ∧
   ((s.pre enc C.prog fn conds apart (w.forCall tape i).memory i.args ∧ X (w.forCall tape i).memory i.args) ∧ sizedMet enc C.prog fn (OpenSpec.ofChange s) apart (w.forCall tape i).memory i.args) ∧ a.holds C.prog (Go.lone (Frame.enter C.prog f i.args .normal) [] (w.forCall tape i)))
  (walk : ∀ (W : World) (base : Nat) (args : Array Value) (ds gs : List (DataW H)) (before : List MemPlace),
   (∀ (j : Nat) t v, fn.params[j]? = some t → args[j]? = some v → Value.okWide C.prog W .any base t v) →
   DataW.Whole enc C.prog fn.params.toList s.vars apart W args.toList ds gs before →
   X W args → W.ShapedOpen C.prog →
   Calls C.prog f args W fun e W' => ∃ v, e = .returned v ∧ s.post enc C.prog fn apart fresh handsOn again W args v W') :
  ReturnsInHanded a C os f .any (fun w args => (s.pre enc C.prog fn conds apart w args ∧ X w args) ∧ sizedMet enc C.prog fn (OpenSpec.ofChange s) apart w args) (s.post enc C.prog fn apart fresh handsOn again) := by
 refine returnsInHanded_of_calls own started noInit wit fun w tape i _ shape _ ok pre _ => ?_
 obtain ⟨_, _, _, fn', hfn', _, _, _, _, val⟩ := ok
 obtain rfl : fn' = fn := Option.some.inj (hfn'.symm.trans hfn)
 obtain ⟨⟨⟨ds, gs, before, whole, _⟩, x⟩, _⟩ := pre
 refine (walk (w.forCall tape i) w.heap.size i.args ds gs before val (DataW.Whole.of_heap (w' := w.forCall tape i) (by rfl) whole) (hX _ _ _ (by rfl) x) shape).mono ?_
 rintro e W' ⟨v, rfl, p⟩
 exact ChangeSpec.post_blind p
/-- the library's table of sizes holds some number in every world that fits. -/
theorem ml_shaped {W : World} (h : W.ShapedOpen Tryz.prog) : Ml W :=
 cell_of_shapedOpen_int (t := 3) (zero := #[.int .i64 0]) h (of_decide_eq_true (by kernel_rfl)) (by kernel_rfl) rfl (by kernel_rfl) (by kernel_rfl) Tryz.underlying3
end Go.Proofs.YtjapddfnpmlifaaGreatDoor
