/- Whole numbers of the reference: strip, Whole. -/
import Derived.Test.YtjapddfnpmlifaaGreatDoorRunRuSpec
namespace Go.Proofs.YtjapddfnpmlifaaGreatDoor
set_option linter.unusedVariables false
set_option linter.unusedSimpArgs false
open Go.RowKit

def headC (n : UInt8) (l : List UInt8) : Bool := match l with | [] => false | c :: _ => c == n
theorem strip_step {l : List UInt8} (h : 1 < l.length) : (headC 48 l = true → stripS l = stripS (l.drop 1)) ∧ (headC 48 l = false → stripS l = l) := by
 match l, h with
 | c :: d :: r, _ =>
  constructor
  ·
   intro h
   conv => lhs; unfold stripS
   rw [show (c == 48) = true from h]
   rfl
  ·
   intro h
   conv => lhs; unfold stripS
   rw [show (c == 48) = false from h]
   rfl
theorem strip_short {l : List UInt8} (h : l.length ≤ 1) : stripS l = l := by
 match l, h with
 | [], _ => rfl
 | [c], _ => rfl
theorem strip_len (l : List UInt8) : (stripS l).length ≤ l.length := by
 match l with
 | [] => exact Nat.le_refl _
 | [c] => exact Nat.le_refl _
 | c :: d :: r =>
  unfold stripS
  cases (c == 48)
  ·
   exact Nat.le_refl _
  ·
   have := strip_len (d :: r)
   simp only [cond_true, List.length_cons] at this ⊢
   omega
theorem headC_at (s : ByteArray) (h : 0 < s.size) (n : UInt8) : headC n s.data.toList = (s[0] == n) := by
 have hl : 0 < s.data.toList.length := by simpa using h
 have : s.data.toList = s[0] :: s.data.toList.drop 1 := by
  have := List.drop_eq_getElem_cons hl
  rwa [List.drop_zero] at this
 rw [this]
 rfl
/-- a text is handed back. -/
def RetS (l : List UInt8) (w : World) (e : Ending) (w' : World) : Prop := ∃ sb : ByteArray, e = .returned (.string sb) ∧ sb.data.toList = l ∧ w = w'
set_option maxRecDepth 100000 in
set_option maxHeartbeats 3200000 in
theorem ref2_strip (s : ByteArray) (hs : (s.size : Int) ≤ 4096) (w : World) : Calls Tryz.prog 69 #[.string s] w (RetS (stripS s.data.toList) w) := by
 go_enter Tryz.func69, Tryz.ntmps69
 go_wp2
 go_loop [0] (fun v => ∃ sb : ByteArray, v = .string sb ∧ (sb.size : Int) ≤ 4096 ∧ stripS sb.data.toList = stripS s.data.toList) (fun v => match v with | .string sb => sb.size | _ => 0)
 case atStart => exact ⟨s, rfl, hs, rfl⟩
 case round =>
  obtain ⟨sb, rfl, hsb, he⟩ := hrel
  have He := Lib.hid he
  clear he
  by_cases h1 : 1 < sb.size
  ·
   have h1i : (1 : Int) < (sb.size : Int) := by omega
   have hst := strip_step (l := sb.data.toList) (by simpa using h1)
   rw [headC_at sb (by omega)] at hst
   by_cases hc : sb[0] = 48
   ·
    have hb : (sb[0] == 48) = true := by rw [hc]; rfl
    have hi : ((sb[0].toNat : Int) == 48) = true := by rw [hc]; rfl
    have hn : stripS (sb.extract 1 sb.size).data.toList = stripS s.data.toList := by
     rw [Lib.extract_to_end, ← hst.1 hb]
     exact He.out
    have hz : (sb.extract 1 sb.size).size = sb.size - 1 := by rw [ByteArray.size_extract]; omega
    have Hx := Lib.hid (And.intro hn hz)
    clear hst hb hc hn hz
    go_wp2
    go_round
    case rel => exact ⟨_, rfl, by have := Hx.out.2; omega, Hx.out.1⟩
    case measure => have := Hx.out.2; simp; omega
   ·
    have hb : (sb[0] == 48) = false := beq_eq_false_iff_ne.2 hc
    have hi : ((sb[0].toNat : Int) == 48) = false := by
     rw [beq_eq_false_iff_ne]
     intro e
     apply hc
     rw [← UInt8.toNat_inj]
     show _ = 48
     omega
    have hn := hst.2 hb
    rw [He.out] at hn
    have Hx := Lib.hid hn
    clear hst hb hc hn
    go_wp2
    go_ret
    exact ⟨sb, rfl, Hx.out.symm, rfl⟩
  ·
   have h1i : ¬ (1 : Int) < (sb.size : Int) := by omega
   have hn := strip_short (l := sb.data.toList) (by simp; omega)
   rw [He.out] at hn
   have Hx := Lib.hid hn
   clear hn h1
   go_wp2
   go_ret
   exact ⟨sb, rfl, Hx.out.symm, rfl⟩
theorem minus_at (s : ByteArray) (h : 0 < s.size) : minusS s.data.toList = (s[0] == 45) := headC_at s h 45
set_option maxRecDepth 100000 in
set_option maxHeartbeats 3200000 in
theorem ref2_whole_plain (s d : ByteArray) (hs : (s.size : Int) ≤ 4096) (h0 : 0 < s.size) (hd : d = s) (hdl : d.data.toList = tailS s.data.toList) (hm : minusS s.data.toList = false) (w : World) : Calls Tryz.prog 98 #[.string s] w (RetV (wholeS s.data.toList) w) := by
 have hdz : d.size ≤ s.size := by rw [hd]; first | exact Nat.le_refl _ | skip
 have HW0 : wholeN s.data.toList = (bif allDg d.data.toList then numS d.data.toList 0 else none) := by rw [hdl]; rfl
 have HW : wholeS s.data.toList = (wholeN s.data.toList).map (fun n : Nat => (n : Int)) := by unfold wholeS; rw [hm]; rfl
 rw [HW0] at HW
 have HA := Lib.hid (ref2_all d (by omega))
 have HS := Lib.hid (ref2_strip d (by omega))
 have n1 : s.toList.isEmpty = false := by rw [toList_data_ru]; rw [List.isEmpty_eq_false_iff]; exact ne_nil (by omega)
 have n2 : s.data.toList.isEmpty = false := by rw [List.isEmpty_eq_false_iff]; exact ne_nil (by omega)
 have n3 : (s.toList == []) = false := by rw [toList_data_ru, beq_eq_false_iff_ne]; exact ne_nil (by omega)
 have hs0i : (0 : Int) < (s.size : Int) := by omega
 have hc0 : ((s[0].toNat : Int) == 45) = false := by
  have := minus_at s h0
  rw [hm] at this
  have := beq_eq_false_iff_ne.1 this.symm
  rw [beq_eq_false_iff_ne]
  intro e
  apply this
  rw [← UInt8.toNat_inj]
  show _ = 45
  omega
 have hd' := hd.symm
 clear hd
 subst hd'
 have HHW := Lib.hid HW
 clear HW0 HW hdl hm
 cases ha : allDg s.data.toList
 ·
  have hx : Hid (wholeS s.data.toList = none) := Lib.hid (by rw [HHW.out, ha]; rfl)
  rw [ha] at HA
  have HAA := HA
  clear ha HHW
  go_enter Tryz.func98, Tryz.ntmps98
  go_wp2_with (first | (go_at_call 67; refine (HA.out _).mono ?_; rintro e w' ⟨rfl, rfl⟩))
  go_ret2
  exact RetV.none' hx.out
 ·
  have hall : s.data.toList.all isDg = true := by unfold allDg at ha; rw [Bool.and_eq_true] at ha; exact ha.1
  have hne : s.data.toList.isEmpty = false := by unfold allDg at ha; rw [Bool.and_eq_true] at ha; simpa using ha.2
  have hw9 : wholeS s.data.toList = (numS s.data.toList 0).map (fun n : Nat => (n : Int)) := by rw [HHW.out, ha]; rfl
  have Hw9 := Lib.hid hw9
  have Hall := Lib.hid hall
  rw [ha] at HA
  clear ha HHW hall hw9 hne
  go_enter Tryz.func98, Tryz.ntmps98
  go_upto_region 8 with (first | (go_at_call 67; refine (HA.out _).mono ?_; rintro e w' ⟨rfl, rfl⟩) | (go_at_call 69; refine (HS.out _).mono ?_; rintro e w' ⟨t, rfl, ht, rfl⟩))
  have htz : t.size ≤ s.size := by
   have := strip_len s.data.toList
   rw [← ht] at this
   simpa using this
  have hall2 : t.data.toList.all isDg = true := by rw [ht]; exact strip_all _ Hall.out
  have hnum : numS t.data.toList 0 = numS s.data.toList 0 := by rw [ht]; exact strip_num _
  by_cases hlong : 19 < t.size
  ·
   have hl : (19 : Int) < (t.size : Int) := by omega
   have hx : Hid (wholeS s.data.toList = none) := Lib.hid (by rw [Hw9.out, strip_long _ Hall.out (by rw [← ht]; simpa using hlong)]; rfl)
   clear ht hall2 hnum Hw9
   go_wp2
   go_ret2
   exact RetV.none' hx.out
  ·
   have hl : ¬ (19 : Int) < (t.size : Int) := by omega
   have Hd := Lib.hid hall2
   have Hx := Lib.hid (hnum ▸ Hw9.out : wholeS s.data.toList = (numS t.data.toList 0).map (fun n : Nat => (n : Int)))
   have hts : (t.size : Int) ≤ 19 := by omega
   clear ht hall2 hnum Hw9 HA HS hlong
   go_wp2
   go_loop [5, 6] (fun v i => ∃ k n : Nat, k ≤ t.size ∧ i = .int .i64 k ∧ v = .int .i64 n ∧ n ≤ maxN ∧ numS (t.data.toList.drop k) n = numS t.data.toList 0) (fun _ i => t.size - (intOf i).toNat)
   case atStart => exact ⟨0, 0, Nat.zero_le _, rfl, rfl, Nat.zero_le _, rfl⟩
   case round =>
    obtain ⟨k, n, hk, rfl, rfl, hn, he⟩ := hrel
    have hn1 : (n : Int) ≤ 4611686018427387904 := by have : n ≤ 4611686018427387904 := hn; omega
    have He := Lib.hid he
    have Hn := Lib.hid hn
    clear he hn
    by_cases hlt : k < t.size
    ·
     have hlt' : (k : Int) < (t.size : Int) := by omega
     have hd := Hd.out
     have hsl : t.data.toList.length = t.size := by simp
     obtain ⟨c, hc⟩ : ∃ c, c = t[k] := ⟨_, rfl⟩
     have hdr : t.data.toList.drop k = c :: t.data.toList.drop (k + 1) := by rw [hc]; exact List.drop_eq_getElem_cons (by simpa using hlt)
     have hcd : isDg c = true := List.all_eq_true.1 hd c (List.mem_of_mem_drop (i := k) (by rw [hdr]; exact List.mem_cons_self))
     obtain ⟨c1, c2⟩ := (isDg_iff c).1 hcd
     obtain ⟨n1, n2⟩ := numS_cons c (t.data.toList.drop (k + 1)) n c1 c2 Hn.out
     have hc1 : (48 : Int) ≤ (t[k].toNat : Int) := by rw [← hc]; omega
     have hc2 : (t[k].toNat : Int) ≤ 57 := by rw [← hc]; omega
     rw [hc] at n1 n2 hdr
     have e0 := He.out
     rw [hdr] at e0
     by_cases hb : (4611686018427387904 - ((t[k].toNat : Int) - 48)) / 10 < (n : Int)
     ·
      have hx : Hid (wholeS s.data.toList = none) := Lib.hid (by rw [Hx.out, e0.symm.trans (n1 hb)]; rfl)
      clear e0 n1 n2 hdr hcd hd hc c1 c2 hsl
      go_wp2
      go_ret2
      exact RetV.none' hx.out
     ·
      obtain ⟨n3, n4⟩ := n2 hb
      have hx := Lib.hid (And.intro (n3.symm.trans e0) n4)
      have hb2 : (n : Int) * 10 + ((t[k].toNat : Int) - 48) ≤ 4611686018427387904 := by rw [hc] at c1; unfold maxN at n4; omega
      clear e0 n1 n2 n3 n4 hdr hcd hd hc c1 c2 hsl
      go_wp2
      go_round
      case rel => exact ⟨k + 1, n * 10 + (t[k].toNat - 48), by omega, by go_num, by go_num, hx.out.2, hx.out.1⟩
      case measure => simp [intOf]; omega
    ·
     have hks : k = t.size := by omega
     have hge : ¬ (k : Int) < (t.size : Int) := by omega
     have e0 := He.out
     rw [List.drop_eq_nil_of_le (by simp; omega)] at e0
     have hx : Hid (wholeS s.data.toList = some (n : Int)) := Lib.hid (by rw [Hx.out, ← e0]; rfl)
     clear e0 hks
     go_wp2
     go_ret2
     exact RetV.some' hx.out
set_option maxRecDepth 100000 in
set_option maxHeartbeats 3200000 in
theorem ref2_whole_minus (s d : ByteArray) (hs : (s.size : Int) ≤ 4096) (hd : d = s.extract 1 s.size) (hdl : d.data.toList = tailS s.data.toList) (hm : minusS s.data.toList = true) (w : World) : Calls Tryz.prog 98 #[.string s] w (RetV (wholeS s.data.toList) w) := by
 have hdz : d.size ≤ s.size := by rw [hd]; rw [ByteArray.size_extract]; omega; first | exact Nat.le_refl _ | skip
 have HW0 : wholeN s.data.toList = (bif allDg d.data.toList then numS d.data.toList 0 else none) := by rw [hdl]; rfl
 have HW : wholeS s.data.toList = (wholeN s.data.toList).map (fun n : Nat => -(n : Int)) := by unfold wholeS; rw [hm]; rfl
 rw [HW0] at HW
 have HA := Lib.hid (ref2_all d (by omega))
 have HS := Lib.hid (ref2_strip d (by omega))
 have hs0 : 0 < s.size := by have := minus_pos hm; simpa using this
 have hs0i : (0 : Int) < (s.size : Int) := by omega
 have hc0 : ((s[0].toNat : Int) == 45) = true := by
  have := minus_at s hs0
  rw [hm] at this
  have := eq_of_beq this.symm
  rw [this]; rfl
 have n1 : s.toList.isEmpty = false := by rw [toList_data_ru]; rw [List.isEmpty_eq_false_iff]; exact ne_nil (by omega)
 have n2 : s.data.toList.isEmpty = false := by rw [List.isEmpty_eq_false_iff]; exact ne_nil (by omega)
 have n3 : (s.toList == []) = false := by rw [toList_data_ru, beq_eq_false_iff_ne]; exact ne_nil (by omega)
 have HD := Lib.hid hd
 have HHW := Lib.hid HW
 clear HW0 HW hdl hm hd
 cases ha : allDg d.data.toList
 ·
  have hx : Hid (wholeS s.data.toList = none) := Lib.hid (by rw [HHW.out, ha]; rfl)
  rw [ha] at HA
  have HAA := HA
  clear ha HHW
  go_enter Tryz.func98, Tryz.ntmps98
  go_wp2_with (first | (go_at_call 67; (try rw [← HD.out]); refine (HA.out _).mono ?_; rintro e w' ⟨rfl, rfl⟩))
  go_ret2
  exact RetV.none' hx.out
 ·
  have hall : d.data.toList.all isDg = true := by unfold allDg at ha; rw [Bool.and_eq_true] at ha; exact ha.1
  have hne : d.data.toList.isEmpty = false := by unfold allDg at ha; rw [Bool.and_eq_true] at ha; simpa using ha.2
  have hw9 : wholeS s.data.toList = (numS d.data.toList 0).map (fun n : Nat => -(n : Int)) := by rw [HHW.out, ha]; rfl
  have Hw9 := Lib.hid hw9
  have Hall := Lib.hid hall
  rw [ha] at HA
  clear ha HHW hall hw9 hne
  go_enter Tryz.func98, Tryz.ntmps98
  go_upto_region 8 with (first | (go_at_call 67; (try rw [← HD.out]); refine (HA.out _).mono ?_; rintro e w' ⟨rfl, rfl⟩) | (go_at_call 69; (try rw [← HD.out]); refine (HS.out _).mono ?_; rintro e w' ⟨t, rfl, ht, rfl⟩))
  have htz : t.size ≤ d.size := by
   have := strip_len d.data.toList
   rw [← ht] at this
   simpa using this
  have hall2 : t.data.toList.all isDg = true := by rw [ht]; exact strip_all _ Hall.out
  have hnum : numS t.data.toList 0 = numS d.data.toList 0 := by rw [ht]; exact strip_num _
  by_cases hlong : 19 < t.size
  ·
   have hl : (19 : Int) < (t.size : Int) := by omega
   have hx : Hid (wholeS s.data.toList = none) := Lib.hid (by rw [Hw9.out, strip_long _ Hall.out (by rw [← ht]; simpa using hlong)]; rfl)
   clear ht hall2 hnum Hw9
   go_wp2
   go_ret2
   exact RetV.none' hx.out
  ·
   have hl : ¬ (19 : Int) < (t.size : Int) := by omega
   have Hd := Lib.hid hall2
   have Hx := Lib.hid (hnum ▸ Hw9.out : wholeS s.data.toList = (numS t.data.toList 0).map (fun n : Nat => -(n : Int)))
   have hts : (t.size : Int) ≤ 19 := by omega
   clear ht hall2 hnum Hw9 HA HS hlong
   go_wp2
   go_loop [5, 6] (fun v i => ∃ k n : Nat, k ≤ t.size ∧ i = .int .i64 k ∧ v = .int .i64 n ∧ n ≤ maxN ∧ numS (t.data.toList.drop k) n = numS t.data.toList 0) (fun _ i => t.size - (intOf i).toNat)
   case atStart => exact ⟨0, 0, Nat.zero_le _, rfl, rfl, Nat.zero_le _, rfl⟩
   case round =>
    obtain ⟨k, n, hk, rfl, rfl, hn, he⟩ := hrel
    have hn1 : (n : Int) ≤ 4611686018427387904 := by have : n ≤ 4611686018427387904 := hn; omega
    have He := Lib.hid he
    have Hn := Lib.hid hn
    clear he hn
    by_cases hlt : k < t.size
    ·
     have hlt' : (k : Int) < (t.size : Int) := by omega
     have hd := Hd.out
     have hsl : t.data.toList.length = t.size := by simp
     obtain ⟨c, hc⟩ : ∃ c, c = t[k] := ⟨_, rfl⟩
     have hdr : t.data.toList.drop k = c :: t.data.toList.drop (k + 1) := by rw [hc]; exact List.drop_eq_getElem_cons (by simpa using hlt)
     have hcd : isDg c = true := List.all_eq_true.1 hd c (List.mem_of_mem_drop (i := k) (by rw [hdr]; exact List.mem_cons_self))
     obtain ⟨c1, c2⟩ := (isDg_iff c).1 hcd
     obtain ⟨n1, n2⟩ := numS_cons c (t.data.toList.drop (k + 1)) n c1 c2 Hn.out
     have hc1 : (48 : Int) ≤ (t[k].toNat : Int) := by rw [← hc]; omega
     have hc2 : (t[k].toNat : Int) ≤ 57 := by rw [← hc]; omega
     rw [hc] at n1 n2 hdr
     have e0 := He.out
     rw [hdr] at e0
     by_cases hb : (4611686018427387904 - ((t[k].toNat : Int) - 48)) / 10 < (n : Int)
     ·
      have hx : Hid (wholeS s.data.toList = none) := Lib.hid (by rw [Hx.out, e0.symm.trans (n1 hb)]; rfl)
      clear e0 n1 n2 hdr hcd hd hc c1 c2 hsl
      go_wp2
      go_ret2
      exact RetV.none' hx.out
     ·
      obtain ⟨n3, n4⟩ := n2 hb
      have hx := Lib.hid (And.intro (n3.symm.trans e0) n4)
      have hb2 : (n : Int) * 10 + ((t[k].toNat : Int) - 48) ≤ 4611686018427387904 := by rw [hc] at c1; unfold maxN at n4; omega
      clear e0 n1 n2 n3 n4 hdr hcd hd hc c1 c2 hsl
      go_wp2
      go_round
      case rel => exact ⟨k + 1, n * 10 + (t[k].toNat - 48), by omega, by go_num, by go_num, hx.out.2, hx.out.1⟩
      case measure => simp [intOf]; omega
    ·
     have hks : k = t.size := by omega
     have hge : ¬ (k : Int) < (t.size : Int) := by omega
     have e0 := He.out
     rw [List.drop_eq_nil_of_le (by simp; omega)] at e0
     have hx : Hid (wholeS s.data.toList = some (-(n : Int))) := Lib.hid (by rw [Hx.out, ← e0]; rfl)
     clear e0 hks
     go_wp2
     go_ret2
     exact RetV.some' hx.out
set_option maxRecDepth 100000 in
set_option maxHeartbeats 3200000 in
theorem ref2_Whole (s : ByteArray) (hs : (s.size : Int) ≤ 4096) (w : World) : Calls Tryz.prog 98 #[.string s] w (RetV (wholeS s.data.toList) w) := by
 cases hm : minusS s.data.toList
 ·
  rcases Nat.eq_zero_or_pos s.size with h0 | h0
  ·
   obtain rfl : s = ⟨#[]⟩ := by
    apply ByteArray.ext; apply Array.eq_empty_of_size_eq_zero; exact h0
   have HA := Lib.hid (ref2_all ⟨#[]⟩ hs)
   have ha : allDg (⟨#[]⟩ : ByteArray).data.toList = false := rfl
   rw [ha] at HA
   clear hm h0 ha
   go_enter Tryz.func98, Tryz.ntmps98
   go_wp2_with (go_at_call 67; refine (HA.out _).mono ?_; rintro e w' ⟨rfl, rfl⟩)
   go_ret2
   exact RetV.none' rfl
  ·
   exact ref2_whole_plain s s hs h0 rfl (by unfold tailS; rw [hm]; rfl) hm w
 ·
  exact ref2_whole_minus s _ hs rfl (by rw [Lib.extract_to_end]; unfold tailS; rw [hm]; rfl) hm w
end Go.Proofs.YtjapddfnpmlifaaGreatDoor
