/- rules.Retentions. -/
import Derived.Test.YtfnpmdcbhjabmaaDoorRuSpl2
import Derived.Test.YtfnpmdcbhjabmaaDoorRuChk
namespace Go.Proofs.YtfnpmdcbhjabmaaDoor
set_option linter.unusedVariables false
set_option linter.unusedSimpArgs false
open Go.RowKit

/-- archives are handed back, or the error. -/
def RetG (x : Option (List (Nat × Nat))) (w : World) (e : Ending) (w' : World) : Prop :=
  ∃ A c, e = .returned (.tuple #[.slice A (x.getD []).length c, .int .i64 (if x.isSome then 0 else 15)]) ∧ Ra w' A (x.getD []) ∧ Gr w w'
theorem RetG.none' {x : Option (List (Nat × Nat))} {w w' : World} (h : x = none) (g : Gr w w') : RetG x w (.returned (.tuple #[.slice none 0 0, .int .i64 15])) w' := by subst h; exact ⟨none, 0, rfl, Ra.nil _ _, g⟩
theorem RetG.some' {x : Option (List (Nat × Nat))} {l : List (Nat × Nat)} {A : Option Addr} {c : Nat} {w w' : World} (h : x = some l) (hr : Ra w' A l) (g : Gr w w') : RetG x w (.returned (.tuple #[.slice A l.length c, .int .i64 0])) w' := by subst h; exact ⟨A, c, rfl, hr, g⟩
theorem archsS_none : ∀ (m : List (List UInt8)) (k : Nat) (h : k < m.length), archS m[k] = none → archsS m = none
  | [], k, h, _ => absurd h (Nat.not_lt_zero _)
  | p :: m, 0, _, e => by
    have e' : archS p = none := e
    unfold archsS
    rw [e']
  | p :: m, k + 1, h, e => by
    have := archsS_none m k (by simpa using h) e
    unfold archsS
    rw [this]
    cases archS p <;> rfl
theorem archsS_some : ∀ (m : List (List UInt8)) (l : List (Nat × Nat)), l.length = m.length → (∀ k (h : k < m.length) (h' : k < l.length), archS m[k] = some l[k]) → archsS m = some l
  | [], [], _, _ => rfl
  | [], _ :: _, h, _ => by simp at h
  | _ :: _, [], h, _ => by simp at h
  | p :: m, a :: l, h, e => by
    have e0 : archS p = some a := e 0 (by simp) (by simp)
    have := archsS_some m l (by simpa using h) (fun k h1 h2 => e (k + 1) (by simpa using h1) (by simpa using h2))
    unfold archsS
    rw [e0, this]
    rfl
theorem archS_le {l : List UInt8} {a : Nat × Nat} (h : archS l = some a) : a.1 ≤ maxN ∧ a.2 ≤ maxN := by
  rw [arch_of] at h
  cases hc : cutS 58 l with
  | none => rw [hc] at h; cases h
  | some p =>
    rw [hc] at h
    simp only at h
    cases h1 : unsS p.1 with
    | none => rw [h1] at h; cases h
    | some x =>
      rw [h1] at h
      cases h2 : unsS p.2 with
      | none => rw [h2] at h; cases h
      | some y =>
        rw [h2] at h
        obtain ⟨st, b⟩ := x
        obtain ⟨n, long⟩ := y
        simp only at h
        have k1 := unsS_le h1
        have k2 := unsS_le h2
        cases h0 : (st == 0)
        · rw [h0] at h
          simp only [cond_false, Option.some.injEq] at h
          subst h
          refine ⟨k1, ?_⟩
          cases long
          · exact k2
          · exact Nat.le_trans (Nat.div_le_self n st) k2
        · rw [h0] at h; cases h
/-- the first k are read. -/
structure ArJ (m : List (List UInt8)) (k : Nat) (l : List (Nat × Nat)) : Prop where
  len : l.length = k
  at' : ∀ j (h : j < m.length) (h' : j < l.length), archS m[j] = some l[j]
theorem ArJ.step {m : List (List UInt8)} {k : Nat} {l : List (Nat × Nat)} (h : ArJ m k l) (hk : k < m.length) {a : Nat × Nat} (ha : archS m[k] = some a) : ArJ m (k + 1) (l ++ [a]) := by
  refine ⟨by simp [h.len], fun j hj hj' => ?_⟩
  rcases Nat.lt_or_ge j l.length with h1 | h1
  · rw [List.getElem_append_left h1]; exact h.at' j hj h1
  · have : j = k := by have := h.len; simp at hj'; omega
    subst this
    rw [List.getElem_append_right h1, ha]
    simp
theorem ArJ.le {m : List (List UInt8)} {k : Nat} {l : List (Nat × Nat)} (h : ArJ m k l) (hk : k ≤ m.length) : ∀ a ∈ l, a.1 ≤ maxN ∧ a.2 ≤ maxN := fun a ha => by
  obtain ⟨j, hj, rfl⟩ := List.mem_iff_getElem.1 ha
  exact archS_le (h.at' j (by have := h.len; omega) hj)
theorem ArJ.done {m : List (List UInt8)} {l : List (Nat × Nat)} (h : ArJ m m.length l) : archsS m = some l := archsS_some m l h.len h.at'
set_option maxRecDepth 100000 in
set_option maxHeartbeats 6400000 in
theorem rules_Retentions (s : ByteArray) (hs : (s.size : Int) ≤ 300) (w : World) (hm : Ml w) : Calls Tryd.prog 5 #[.string s] w (RetG (retS s.data.toList) w) := by
  obtain ⟨i0, hi, hz0, hz1, hz2⟩ := info_parts info_arch
  obtain ⟨m, hmm⟩ : ∃ m, m = partS 44 s.data.toList := ⟨_, rfl⟩
  have hml : m.length ≤ 301 := by have := partS_len 44 s.data.toList; rw [← hmm] at this; have e : s.data.toList.length = s.size := by simp
                                  omega
  have hmp : ∀ p ∈ m, p.length ≤ 300 := fun p hp => by have := (partS_mem 44 s.data.toList p (hmm ▸ hp)).1; have e : s.data.toList.length = s.size := by simp
                                                       omega
  have hret : retS s.data.toList = match archsS m with | none => none | some l => bif mayS l then some l else none := by rw [hmm]; rfl
  have HS := Lib.hid (fun w hm => split_any s 44 (by omega) w hm)
  rw [← hmm] at HS
  have Hret := Lib.hid hret
  have Hmp := Lib.hid hmp
  have HM := Lib.hid hm
  clear hmm hret hmp hm
  have hmli : (m.length : Int) ≤ 301 := by omega
  go_enter Tryd.func5, Tryd.ntmps5
  go_upto_region 3 with (go_at_call 13; refine (HS.out _ HM.out).mono ?_; rintro e w1 ⟨b, cp, rfl, hb0, hb, hS, g1⟩)
  have HSt := Lib.hid hS
  have G1 := Lib.hid g1
  have hzb : w.heap.size ≤ w1.heap.size := g1.size
  clear hS g1 HS
  go_wp2
  go_loopw [4, 12] (fun v i wr => ∃ (k : Nat) (l : List (Nat × Nat)), k ≤ m.length ∧ i = .int .i64 k ∧ Gr w1 wr ∧ wr.ownsRow w1.heap.size 44 2 v k (acells l) ∧ ArJ m k l) (fun _ i _ => m.length - (intOf i).toNat)
  case atStart => exact ⟨0, [], Nat.zero_le _, rfl, Gr.refl _, World.ownsRow_nil _ _ _ _, rfl, fun j _ h => absurd h (Nat.not_lt_zero _)⟩
  case round =>
    obtain ⟨k, l, hk, rfl, hgr, hown, J⟩ := hrel
    by_cases hlt : k < m.length
    · have hki : (k : Int) < (m.length : Int) := by omega
      have cs := (Below.cell hgr (p := ⟨b, k, none⟩) hb).trans (HSt.out k hlt)
      obtain ⟨X, hX⟩ : ∃ X : ByteArray, X = ⟨m[k].toArray⟩ := ⟨_, rfl⟩
      have hXs : (X.size : Int) ≤ 4096 := by
        have := Hmp.out m[k] (List.getElem_mem hlt)
        have e : X.size = m[k].length := by rw [hX]; show m[k].toArray.size = _; simp
        omega
      have hXl : X.data.toList = m[k] := by rw [hX]
      have HA := rules_archive X hXs wr ((HM.out.gr G1.out).gr hgr)
      rw [hXl] at HA
      rw [← hX] at cs
      have HJ := Lib.hid J
      have Hgr := Lib.hid hgr
      have hz1' := hgr.size
      clear hX hXl hXs J
      cases ha : archS m[k] with
      | none =>
        rw [ha] at HA
        have HN : Hid (retS s.data.toList = none) := Lib.hid (by rw [Hret.out, archsS_none m k hlt ha])
        have HAA := Lib.hid HA
        clear HA ha hgr hown
        go_wp2_with (go_at_call 14; refine HAA.out.mono ?_; rintro e w2 ⟨rfl, g2⟩; have G2 := Lib.hid g2; clear g2)
        go_ret2
        exact RetG.none' HN.out ((((G1.out.trans Hgr.out).trans G2.out).alloc _))
      | some a =>
        rw [ha] at HA
        have HJ2 := Lib.hid (HJ.out.step hlt ha)
        obtain ⟨x1, x2⟩ := a
        have HAA := Lib.hid HA
        have HO := Lib.hid hown
        clear HA ha hown
        go_upto_region 8 with (go_at_call 14; refine HAA.out.mono ?_; rintro e w2 ⟨rfl, g2⟩; have G2 := Lib.hid g2; clear g2)
        have hv0 := own_gr (own_gr HO.out G2.out) (Gr.alloc (Gr.alloc (Gr.refl w2) (.cells #[.int .i64 x1, .int .i64 x2] 44)) (.cells #[.int .i64 x1, .int .i64 x2] 44))
        have hvl := HO.out.lt
        have hrx : Rd ((w2.alloc (.cells #[.int .i64 x1, .int .i64 x2] 44)).alloc (.cells #[.int .i64 x1, .int .i64 x2] 44)) 2 (some ⟨w2.heap.size + 1, 0, none⟩) 1 (acells [(x1, x2)]) := Rd.new (W := w2.alloc (.cells #[.int .i64 x1, .int .i64 x2] 44)) (by simp) 44 (acells [(x1, x2)]) rfl
        have hsz2 := G2.out.size
        have hsz1 := Hgr.out.size
        go_wp2_with (at_builtin; refine wpList_append_rd rfl (.tmp 23) (.tmp 25) 22 rfl w1.heap.size 44 i0 _ 2 16 Tryd.underlying22 hi hz0 hz1 hz2 rfl (by decide) _ _ _ rfl hv0 (some ⟨w2.heap.size + 1, 0, none⟩) 1 _ (acells [(x1, x2)]) rfl hrx (acells_one _) (by unfold maxLen; omega) (by omega) (by simp; omega) ?_; intro v' w3 hown2 hgr2 hat2)
        have hg2 : Gr w1 w3 := Gr.grown (Gr.alloc (Gr.alloc (Hgr.out.trans G2.out) _) _) hgr2 (fun k hk => (hvl k hk).1)
        have HO2 : Hid (w3.ownsRow w1.heap.size 44 2 v' (k + 1) (acells (l ++ [(x1, x2)]))) := Lib.hid (by rw [acells_append]; exact hown2)
        clear hv0 hvl hgr2 hat2 hrx hown2
        go_wp2
        go_roundw
        case rel => exact ⟨k + 1, l ++ [(x1, x2)], by omega, by go_num, hg2, HO2.out, HJ2.out⟩
        case measure => simp [intOf]; omega
    · have hkk : k = m.length := by omega
      subst hkk
      obtain ⟨A, c, hv⟩ := own_form hown
      subst hv
      have hr := Ra.own hown
      have hjl := J.len
      have hC := whead_check A c l (J.le (Nat.le_refl _)) (by omega) wr hr
      rw [hjl] at hC
      have Hr := Lib.hid hr
      have Hgr := Lib.hid hgr
      have HD := Lib.hid (And.intro J.done hjl)
      cases hM : mayS l with
      | false =>
        rw [hM] at hC
        have HC := Lib.hid hC
        have HN : Hid (retS s.data.toList = none) := Lib.hid (by rw [Hret.out, HD.out.1]; simp only [hM]; rfl)
        clear hC hr hgr hown J hjl hM
        go_wp2_with (go_at_call 15; refine HC.out.mono ?_; rintro e w2 ⟨rfl, g2⟩; have G2 := Lib.hid g2; clear g2)
        go_ret2
        exact RetG.none' HN.out ((G1.out.trans Hgr.out).trans G2.out)
      | true =>
        rw [hM] at hC
        have HC := Lib.hid hC
        have HN : Hid (retS s.data.toList = some l) := Lib.hid (by rw [Hret.out, HD.out.1]; simp only [hM]; rfl)
        clear hC hr hgr hown J hjl hM
        go_wp2_with (go_at_call 15; refine HC.out.mono ?_; rintro e w2 ⟨rfl, g2⟩; have G2 := Lib.hid g2; clear g2)
        go_ret2
        rw [← HD.out.2]
        exact RetG.some' HN.out (Hr.out.gr G2.out) ((G1.out.trans Hgr.out).trans G2.out)
end Go.Proofs.YtfnpmdcbhjabmaaDoor
