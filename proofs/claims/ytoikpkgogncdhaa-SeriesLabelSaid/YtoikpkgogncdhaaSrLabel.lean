/- Contracts of Label, of the program and of the reference: a name, and texts in brackets. -/
import Derived.Test.YtoikpkgogncdhaaSrBase
import Derived.Test.YtoikpkgogncdhaaFxRead
import Derived.Test.YtoikpkgogncdhaaStrJoin
import Derived.Lib.Join
import Derived.Lib.Hide
namespace Go.Proofs.Ytoikpkgogncdhaa
set_option linter.unusedVariables false
set_option linter.unusedSimpArgs false
open Go.RowKit

/-- The slice with the address A reads as the list of texts. -/
def Rt (w : World) (A : Option Addr) (xs : List ByteArray) : Prop := Rd w 1 A xs.length (xs.map Value.string)
theorem Rt.gr {w w' : World} {A : Option Addr} {xs : List ByteArray} (h : Rt w A xs) (g : Gr w w') : Rt w' A xs := Rd.gr h g
theorem Rt.at {w : World} {A : Option Addr} {xs : List ByteArray} (h : Rt w A xs) {k : Nat} (hk : k < xs.length) : ∃ ad : Addr, A = some ad ∧ ad.block < w.heap.size ∧ w.cell? (ad.add k) = some (.string xs[k]) := by
  obtain ⟨ad, e, hb, hc⟩ := h.2 (by omega)
  exact ⟨ad, e, hb, hc k _ (by simp [hk])⟩
theorem spot_none {w : World} {a : Addr} {u : Value} (h : w.cell? a = some u) : a.spot = none := by
  unfold World.cell? at h
  split at h
  · split at h
    · cases h
    · rename_i hs; cases hq : a.spot with
      | none => rfl
      | some v => rw [hq] at hs; exact absurd rfl hs
  · cases h
def ofL (l : List UInt8) : ByteArray := ⟨l.toArray⟩
def joinT (xs : List ByteArray) : List UInt8 := Lib.join (xs.map (·.data.toList)) [44]
def labT (name : ByteArray) (xs : List ByteArray) : ByteArray := ofL (name.data.toList ++ [40] ++ joinT xs ++ [41])
theorem ba_ext {a b : ByteArray} (h : a.data.toList = b.data.toList) : a = b := by
  obtain ⟨⟨la⟩⟩ := a; obtain ⟨⟨lb⟩⟩ := b
  simp at h; rw [h]
theorem ba_app (a b : ByteArray) : (a ++ b).data.toList = a.data.toList ++ b.data.toList := by simp
theorem joinT_len (xs : List ByteArray) (h20 : xs.length ≤ 20) (h300 : ∀ x ∈ xs, x.size ≤ 300) : (joinT xs).length ≤ 6020 := by
  have key : ∀ ys : List ByteArray, (∀ x ∈ ys, x.size ≤ 300) → (joinT ys).length ≤ ys.length * 301 := by
    intro ys
    induction ys with
    | nil => intro _; simp [joinT, Lib.join]
    | cons y r ih =>
      intro hy
      have h1 : y.data.toList.length ≤ 300 := hy y (List.mem_cons_self ..)
      have h2 := ih (fun x hx => hy x (List.mem_cons_of_mem _ hx))
      cases r with
      | nil =>
        have e : joinT [y] = y.data.toList := by simp [joinT, Lib.join, List.intercalate]
        rw [e]
        simp only [List.length_cons, List.length_nil]
        omega
      | cons z q =>
        have e : joinT (y :: z :: q) = y.data.toList ++ [44] ++ joinT (z :: q) := by simp [joinT, Lib.join, List.intercalate]
        rw [e]
        simp only [List.length_append, List.length_cons, List.length_nil] at h2 ⊢
        omega
  have := key xs h300
  omega
set_option maxRecDepth 100000 in
set_option maxHeartbeats 1600000 in
theorem label_any (name : ByteArray) (A : Option Addr) (c : Nat) (xs : List ByteArray) (w : World) (hn : name.size ≤ 300) (h20 : xs.length ≤ 20) (h300 : ∀ x ∈ xs, x.size ≤ 300) (hcap : xs.length ≤ c) (hr : Rt w A xs) :
    Calls Try.prog 31 #[.string name, .slice A xs.length c] w fun e w' => e = .returned (.string (labT name xs)) ∧ Gr w w' := by
  have HJ : Hid (∀ W, Gr w W → Calls Try.prog 51 #[.slice A xs.length c, .string ⟨#[44]⟩] W fun e w' => e = .returned (.string (ofL (joinT xs))) ∧ Gr W w') := Lib.hid (fun W hW => by
    rcases Nat.eq_zero_or_pos xs.length with h0 | h0
    · have : xs = [] := List.eq_nil_of_length_eq_zero h0
      subst this
      exact (Try.strings_Join_none A c ⟨#[44]⟩ W).mono (fun e w' ⟨he, hw⟩ => ⟨by rw [he]; rfl, by rw [hw]; exact Gr.refl _⟩)
    · obtain ⟨ad, rfl, hb, hc⟩ := (hr.gr hW).2 h0
      obtain ⟨_, _, _, hc0⟩ := (hr.gr hW).at h0
      have hs : ad.spot = none := spot_none (u := .string xs[0]) (by have := hc 0 (.string xs[0]) (by simp [h0]); simpa [Addr.add] using this)
      obtain ⟨bk, o, sp⟩ := ad
      simp at hs
      subst hs
      refine (Try.strings_Join bk o c xs ⟨#[44]⟩ W (fun j x hx => ?_) hb (by omega) hcap (Nat.le_trans (joinT_len xs h20 h300) (by decide))).mono (fun e w' ⟨he, hw⟩ => ⟨he, hw⟩)
      have := hc j (.string x) (by simp [hx])
      rw [← this]
      congr 1
      unfold Addr.add
      split
      · rename_i h; subst h; rfl
      · rfl)
  obtain ⟨J, hJ⟩ : ∃ J, ofL (joinT xs) = J := ⟨_, rfl⟩
  have hjs : J.size ≤ 6020 := by rw [← hJ]; have := joinT_len xs h20 h300; simpa [ofL, ByteArray.size] using this
  rw [hJ] at HJ
  have HJJ := Lib.hid hJ
  clear hJ h300
  go_enter Try.func31, Try.ntmps31
  go_wp2_with fail
  refine (HJ.out _ (Gr.refl _)).mono ?_; rintro e w1 ⟨rfl, hg⟩
  go_wp2
  go_ret
  refine ⟨?_, hg⟩
  show Ending.returned (.string (name ++ ⟨#[40]⟩ ++ J ++ ⟨#[41]⟩)) = _
  rw [show name ++ ⟨#[40]⟩ ++ J ++ ⟨#[41]⟩ = labT name xs from ba_ext (by rw [← HJJ.out]; simp [labT, ofL])]

theorem inter_snoc (ys : List (List UInt8)) (x : List UInt8) (h : ys ≠ []) : Lib.join (ys ++ [x]) [44] = Lib.join ys [44] ++ [44] ++ x := by
  induction ys with
  | nil => exact absurd rfl h
  | cons y r ih =>
    cases r with
    | nil => simp [Lib.join, List.intercalate]
    | cons z q =>
      have h1 := ih (by simp)
      simp only [Lib.join, List.intercalate, List.cons_append, List.intersperse_cons_cons, List.flatten_cons] at h1 ⊢
      rw [h1]
      simp
theorem joinT_snoc {xs : List ByteArray} {k : Nat} (h : k < xs.length) (hk : 0 < k) : joinT (xs.take (k + 1)) = joinT (xs.take k) ++ [44] ++ xs[k].data.toList := by
  unfold joinT
  rw [List.take_succ_eq_append_getElem h, List.map_append]
  refine inter_snoc _ _ (fun e => ?_)
  have e2 := congrArg List.length e
  rw [List.length_map, List.length_take, List.length_nil] at e2
  omega
theorem joinT_first {xs : List ByteArray} (h : 0 < xs.length) : joinT (xs.take 1) = xs[0].data.toList := by
  rw [List.take_succ_eq_append_getElem h]
  simp [joinT, Lib.join, List.intercalate]
theorem part_size (name : ByteArray) (xs : List ByteArray) (k : Nat) (hn : name.size ≤ 300) (h20 : xs.length ≤ 20) (h300 : ∀ x ∈ xs, x.size ≤ 300) : (ofL (name.data.toList ++ [40] ++ joinT (xs.take k))).size ≤ 6330 := by
  have h1 := joinT_len (xs.take k) (by simp; omega) (fun x hx => h300 x (List.mem_of_mem_take hx))
  have h2 : name.data.toList.length = name.size := by simp
  show (name.data.toList ++ [40] ++ joinT (xs.take k)).toArray.size ≤ 6330
  simp only [List.size_toArray, List.length_append, List.length_cons, List.length_nil]
  omega

set_option maxRecDepth 100000 in
set_option maxHeartbeats 1600000 in
theorem rlabel_any (name : ByteArray) (A : Option Addr) (c : Nat) (xs : List ByteArray) (w : World) (hn : name.size ≤ 300) (h20 : xs.length ≤ 20) (h300 : ∀ x ∈ xs, x.size ≤ 300) (hr : Rt w A xs) :
    Calls Try.prog 32 #[.string name, .slice A xs.length c] w fun e w' => e = .returned (.string (labT name xs)) ∧ Gr w w' := by
  have hl20 : (xs.length : Int) ≤ 20 := by omega
  have HP := Lib.hid (fun k => part_size name xs k hn h20 h300)
  have HX : Hid (∀ k (h : k < xs.length), xs[k].size ≤ 300) := Lib.hid (fun k h => h300 _ (List.getElem_mem h))
  have HS := Lib.hid (fun k (h : k < xs.length) (h0 : 0 < k) => joinT_snoc h h0)
  have HF := Lib.hid (@joinT_first xs)
  clear h300
  go_enter Try.func32, Try.ntmps32
  go_wp2
  go_loopw [5, 6] (fun s i wr => ∃ (k : Nat) (S : ByteArray), k ≤ xs.length ∧ i = .int .i64 k ∧ s = .string S ∧ S.size ≤ 6330 ∧ Gr w wr ∧ Hid (S = ofL (name.data.toList ++ [40] ++ joinT (xs.take k)))) (fun _ i _ => xs.length - (intOf i).toNat)
  case atStart =>
    have e : Hid (name ++ ⟨#[40]⟩ = ofL (name.data.toList ++ [40] ++ joinT (xs.take 0))) := Lib.hid (ba_ext (by simp [ofL, joinT, Lib.join, List.intercalate]))
    exact ⟨0, _, Nat.zero_le _, rfl, rfl, by rw [e.out]; exact HP.out 0, Gr.refl _, e⟩
  case round =>
    obtain ⟨k, S, hk, rfl, rfl, hS, hgr, HE⟩ := hrel
    by_cases hlt : k < xs.length
    · obtain ⟨ad, rfl, hb, hx⟩ := (hr.gr hgr).at hlt
      have hxs := HX.out k hlt
      by_cases h0 : 0 < k
      · have e : Hid (S ++ ⟨#[44]⟩ ++ xs[k] = ofL (name.data.toList ++ [40] ++ joinT (xs.take (k + 1)))) := Lib.hid (ba_ext (by rw [HS.out k hlt h0, HE.out]; simp [ofL]))
        have hsz : Hid ((S ++ ⟨#[44]⟩ ++ xs[k]).size ≤ 6330) := Lib.hid (by rw [e.out]; exact HP.out (k + 1))
        go_wp2
        go_roundw
        case rel => exact ⟨k + 1, _, by omega, by go_num, rfl, hsz.out, hgr, e⟩
        case measure => simp [intOf]; omega
      · have hk0 : k = 0 := by omega
        subst hk0
        rw [show ad.add 0 = ad by simp [Addr.add]] at hx
        have e : Hid (S ++ xs[0] = ofL (name.data.toList ++ [40] ++ joinT (xs.take (0 + 1)))) := Lib.hid (ba_ext (by rw [HF.out hlt, HE.out]; simp [ofL, joinT, Lib.join, List.intercalate]))
        have hsz : Hid ((S ++ xs[0]).size ≤ 6330) := Lib.hid (by rw [e.out]; exact HP.out (0 + 1))
        go_wp2
        go_roundw
        case rel => exact ⟨1, _, by omega, by go_num, rfl, hsz.out, hgr, e⟩
        case measure => simp [intOf]; omega
    · have hkk : k = xs.length := by omega
      subst hkk
      have HL : Hid (S ++ ⟨#[41]⟩ = labT name xs) := Lib.hid (ba_ext (by rw [HE.out, List.take_length]; simp [labT, ofL]))
      go_wp2
      go_ret
      refine ⟨?_, hgr⟩
      show Ending.returned (.string (S ++ ⟨#[41]⟩)) = _
      rw [HL.out]
end Go.Proofs.Ytoikpkgogncdhaa
