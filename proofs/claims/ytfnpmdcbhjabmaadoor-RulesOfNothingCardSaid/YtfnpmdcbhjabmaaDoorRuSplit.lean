/- split of the reference. -/
import Derived.Test.YtfnpmdcbhjabmaaDoorRuRows
import Derived.Test.YtfnpmdcbhjabmaaDoorRuSplP
namespace Go.Proofs.YtfnpmdcbhjabmaaDoor
set_option linter.unusedVariables false
set_option linter.unusedSimpArgs false
open Go.RowKit

/-- parts are handed back in a row of their own. -/
def RetP (m : List (List UInt8)) (w : World) (e : Ending) (w' : World) : Prop := ∃ b c, e = .returned (.slice (some ⟨b, 0, none⟩) m.length c) ∧ w.heap.size ≤ b ∧ b < w'.heap.size ∧ Strs w' b m ∧ Gr w w'
/-- how far it is. -/
structure SpJ (c : UInt8) (l : List UInt8) (k f : Nat) (P : List (List UInt8)) : Prop where
  fk : f ≤ k
  no : ∀ x ∈ (l.drop f).take (k - f), x ≠ c
  eq : partS c l = P ++ partS c (l.drop f)
  len : P.length ≤ k
theorem SpJ.step {c : UInt8} {l : List UInt8} {k f : Nat} {P : List (List UInt8)} (h : SpJ c l k f P) (hk : k < l.length) (hc : l[k] ≠ c) : SpJ c l (k + 1) f P := by
  refine ⟨by have := h.fk; omega, fun x hx => ?_, h.eq, by have := h.len; omega⟩
  have hf := h.fk
  rw [show k + 1 - f = (k - f) + 1 by omega, List.take_succ_eq_append_getElem (by rw [List.length_drop]; omega), List.mem_append] at hx
  rcases hx with hx | hx
  · exact h.no x hx
  · rw [List.mem_singleton] at hx
    subst hx
    simp only [List.getElem_drop]
    have : f + (k - f) = k := by omega
    simp only [this]
    exact hc
theorem SpJ.hit {c : UInt8} {l : List UInt8} {k f : Nat} {P : List (List UInt8)} (h : SpJ c l k f P) (hk : k < l.length) (hc : l[k] = c) : SpJ c l (k + 1) (k + 1) (P ++ [(l.drop f).take (k - f)]) := by
  have hf := h.fk
  refine ⟨Nat.le_refl _, fun x hx => (by rw [Nat.sub_self, List.take_zero] at hx; cases hx), ?_, by have := h.len; simp; omega⟩
  have e : l.drop f = (l.drop f).take (k - f) ++ c :: l.drop (k + 1) := by
    conv => lhs; rw [← List.take_append_drop (k - f) (l.drop f)]
    rw [List.drop_drop, show f + (k - f) = k by omega, List.drop_eq_getElem_cons hk, hc]
  rw [h.eq]
  conv => lhs; rw [e, partS_hit c _ _ h.no]
  simp
theorem SpJ.last {c : UInt8} {l : List UInt8} {f : Nat} {P : List (List UInt8)} (h : SpJ c l l.length f P) : partS c l = P ++ [(l.drop f).take (l.length - f)] := by
  have hf := h.fk
  have e : (l.drop f).take (l.length - f) = l.drop f := by rw [List.take_of_length_le]; simp
  have hno := h.no
  rw [e] at hno ⊢
  rw [h.eq, partS_no c _ hno]
set_option maxRecDepth 100000 in
set_option maxHeartbeats 6400000 in
theorem ref_split (s : ByteArray) (hs : (s.size : Int) ≤ 4096) (c : UInt8) (w : World) : Calls Tryd.prog 16 #[.string s, .int .u8 c.toNat] w (RetP (partS c s.data.toList) w) := by
  obtain ⟨i0, hi, hz0, hz1, hz2⟩ := info_parts info_str
  have hsl : s.data.toList.length = s.size := by simp
  go_enter Tryd.func16, Tryd.ntmps16
  go_wp2
  go_loopw [5, 6, 7] (fun v f i wr => ∃ (k : Nat) (g : Nat) (P : List (List UInt8)), i = .int .i64 k ∧ f = .int .i64 g ∧ Gr w wr ∧ wr.ownsRow w.heap.size 9 1 v P.length (scells P) ∧ ((k ≤ s.size ∧ SpJ c s.data.toList k g P) ∨ (k = s.size + 1 ∧ P = partS c s.data.toList)))
    (fun _ _ i _ => s.size + 2 - (intOf i).toNat)
  case atStart => exact ⟨0, 0, [], rfl, rfl, Gr.refl _, World.ownsRow_nil _ _ _ _, .inl ⟨Nat.zero_le _, Nat.le_refl _, fun x hx => by simp at hx, rfl, Nat.zero_le _⟩⟩
  case round =>
    obtain ⟨k, g, P, rfl, rfl, hgr, hown, hk⟩ := hrel
    rcases hk with ⟨hk, J⟩ | ⟨rfl, hP⟩
    · have hki : (k : Int) ≤ (s.size : Int) := by omega
      have hgk : (g : Int) ≤ (k : Int) := by have := J.fk; omega
      have hPl : P.length ≤ 4097 := by have := J.len; omega
      have HJ := Lib.hid J
      have Hgr := Lib.hid hgr
      have hown0 := own_gr hown (Gr.alloc (Gr.refl wr) (.cells #[.string (s.extract g k)] 9))
      have hvl := hown.lt
      have hrx : Rd (wr.alloc (.cells #[.string (s.extract g k)] 9)) 1 (some ⟨wr.heap.size, 0, none⟩) 1 [.string (s.extract g k)] := Rd.new (W := wr) rfl 9 [.string (s.extract g k)] rfl
      have hz := hgr.size
      by_cases hlt : k < s.size
      · have hne : ((k : Int) == (s.size : Int)) = false := beq_eq_false_iff_ne.2 (by omega)
        have hki2 : (k : Int) < (s.size : Int) := by omega
        have hlk : k < s.data.toList.length := by omega
        have hgk2 : s.data.toList[k] = s[k] := rfl
        by_cases hc : s[k] = c
        · have hc1 : ((s[k].toNat : Int) == (c.toNat : Int)) = true := by rw [hc]; simp
          have HJ2 := Lib.hid (J.hit hlk (hgk2.trans hc))
          clear J hc hgk2
          go_wp2_with (at_builtin; refine wpList_append_rd rfl (.tmp 25) (.tmp 30) 41 rfl w.heap.size 9 i0 _ 1 16 Tryd.underlying41 hi hz0 hz1 hz2 rfl (by decide) _ _ _ rfl hown0 (some ⟨wr.heap.size, 0, none⟩) 1 _ [.string (s.extract g k)] rfl hrx (by simp [Value.oneCell']) (by unfold maxLen; omega) (by omega) (by simp; omega) ?_; intro v' w2 hown2 hgr2 hat2)
          have hg2 : Gr w w2 := Gr.grown (Gr.alloc Hgr.out _) hgr2 (fun k hk => (hvl k hk).1)
          have HO : Hid (w2.ownsRow w.heap.size 9 1 v' (P ++ [(s.data.toList.drop g).take (k - g)]).length (scells (P ++ [(s.data.toList.drop g).take (k - g)]))) := Lib.hid (by
            rw [scells_append, List.length_append, show scells [(s.data.toList.drop g).take (k - g)] = [.string (s.extract g k)] by rw [ext_eq] <;> rfl]
            exact hown2)
          clear hown2 hgr2 hat2 hown0 hrx hvl
          go_wp2
          go_roundw
          case rel => exact ⟨k + 1, k + 1, _, by go_num, by go_num, hg2, HO.out, .inl ⟨by omega, HJ2.out⟩⟩
          case measure => simp [intOf]; omega
        · have hc1 : ((s[k].toNat : Int) == (c.toNat : Int)) = false := beq_eq_false_iff_ne.2 fun e => hc (by rw [← UInt8.toNat_inj]; omega)
          have HJ2 := Lib.hid (J.step hlk (fun e => hc (hgk2.symm.trans e)))
          clear J hc hgk2 hown0 hrx
          go_wp2
          go_roundw
          case rel => exact ⟨k + 1, g, P, by go_num, rfl, Hgr.out, hown, .inl ⟨by omega, HJ2.out⟩⟩
          case measure => simp [intOf]; omega
      · have hkk : k = s.size := by omega
        subst hkk
        have hne : ((s.size : Int) == (s.size : Int)) = true := by simp
        have HJ2 : Hid (partS c s.data.toList = P ++ [(s.data.toList.drop g).take (s.size - g)]) := Lib.hid (by have h := J; rw [← hsl] at h; have := h.last; rw [hsl] at this; exact this)
        clear J
        go_wp2_with (at_builtin; refine wpList_append_rd rfl (.tmp 25) (.tmp 30) 41 rfl w.heap.size 9 i0 _ 1 16 Tryd.underlying41 hi hz0 hz1 hz2 rfl (by decide) _ _ _ rfl hown0 (some ⟨wr.heap.size, 0, none⟩) 1 _ [.string (s.extract g s.size)] rfl hrx (by simp [Value.oneCell']) (by unfold maxLen; omega) (by omega) (by simp; omega) ?_; intro v' w2 hown2 hgr2 hat2)
        have hg2 : Gr w w2 := Gr.grown (Gr.alloc Hgr.out _) hgr2 (fun k hk => (hvl k hk).1)
        have HO : Hid (w2.ownsRow w.heap.size 9 1 v' (P ++ [(s.data.toList.drop g).take (s.size - g)]).length (scells (P ++ [(s.data.toList.drop g).take (s.size - g)]))) := Lib.hid (by
          rw [scells_append, List.length_append, show scells [(s.data.toList.drop g).take (s.size - g)] = [.string (s.extract g s.size)] by rw [ext_eq] <;> rfl]
          exact hown2)
        clear hown2 hgr2 hat2 hown0 hrx hvl
        go_wp2
        go_roundw
        case rel => exact ⟨s.size + 1, s.size + 1, _, by go_num, by go_num, hg2, HO.out, .inr ⟨rfl, HJ2.out.symm⟩⟩
        case measure => first | (simp [intOf]; done) | (simp [intOf]; omega)
    · have hgt : ¬ (s.size : Int) + 1 ≤ (s.size : Int) := by omega
      subst hP
      obtain ⟨A', c', hv⟩ := own_form hown
      subst hv
      obtain ⟨b, rfl, hb, hb2, hS⟩ := Strs.own hown (partS_ne c s.data.toList)
      have HH := Lib.hid (And.intro hb (And.intro hb2 (And.intro hS hgr)))
      clear hown hb hb2 hS hgr
      go_wp2
      go_ret
      exact ⟨b, c', rfl, HH.out⟩
end Go.Proofs.YtfnpmdcbhjabmaaDoor
