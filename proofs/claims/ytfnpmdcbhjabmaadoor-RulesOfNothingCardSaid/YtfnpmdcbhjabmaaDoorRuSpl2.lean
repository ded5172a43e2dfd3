/- strings.Split at one byte: the text's parts, in a new row. -/
import Derived.Test.YtfnpmdcbhjabmaaDoorRuSplit
namespace Go.Proofs.YtfnpmdcbhjabmaaDoor
set_option linter.unusedVariables false
set_option linter.unusedSimpArgs false
open Go.RowKit

theorem splitK_part (c : UInt8) : ∀ (n : Nat) (l : List UInt8), l.length ≤ n → Lib.splitK [c] 0 (Lib.count l [c]) l = partS c l := by
  intro n
  induction n with
  | zero =>
    intro l h
    obtain rfl := List.length_eq_zero_iff.1 (Nat.le_zero.1 h)
    rfl
  | succ n ih =>
    intro l h
    have hi := index_one c l
    cases hc : cutS c l with
    | none =>
      rw [hc] at hi
      simp only at hi
      rw [Lib.count_miss hi, partS_none hc]
      rfl
    | some p =>
      obtain ⟨a, b⟩ := p
      rw [hc] at hi
      simp only at hi
      obtain ⟨h1, h2⟩ := hi
      have hl := cutS_len hc
      have hd : l.drop (a.length + 1) = b := by
        conv => lhs; rw [h2]
        rw [show a ++ c :: b = (a ++ [c]) ++ b by simp, show a.length + 1 = (a ++ [c]).length by simp, List.drop_left]
      have hs1 : ([c] : List UInt8).length = 1 := rfl
      rw [Lib.count_hit (by simp) h1, hs1, hd, Nat.add_comm 1 (Lib.count b [c]), partS_some hc]
      have hne : ((a.length : Int) == -1) = false := beq_eq_false_iff_ne.2 (by omega)
      unfold Lib.splitK
      rw [h1, hne, hs1]
      simp only [Bool.false_eq_true, if_false, Int.toNat_natCast, Nat.add_zero]
      rw [hd, ih b (by omega)]
      congr 1
      conv => lhs; rw [h2]
      rw [List.take_left]
theorem data_inj {l m : List ByteArray} (h : l.map (·.data.toList) = m.map (·.data.toList)) : l = m := by
  have hf : Function.Injective (fun x : ByteArray => x.data.toList) := fun x y e => by
    apply ByteArray.ext
    apply Array.ext'
    exact e
  exact (List.map_inj_right (fun x y e => hf e)).1 h
/-- strings.Split at one byte. -/
theorem split_any (s : ByteArray) (c : UInt8) (hs : (s.size : Int) ≤ 4096) (w : World) (hm : Ml w) : Calls Tryd.prog 13 #[.string s, .string ⟨#[c]⟩] w (RetP (partS c s.data.toList) w) := by
  obtain ⟨m, hm⟩ := hm
  have hk : Lib.splitK [c] 0 (Lib.count s.data.toList [c]) s.data.toList = partS c s.data.toList := splitK_part c _ _ (Nat.le_refl _)
  have hd := Lib.splitB_data ⟨#[c]⟩ 0 (Lib.countB s ⟨#[c]⟩) s
  have e0 : (⟨#[c]⟩ : ByteArray).data.toList = [c] := rfl
  rw [e0] at hd
  have e1 : Lib.countB s ⟨#[c]⟩ = Lib.count s.data.toList [c] := rfl
  rw [e1, hk] at hd
  have hlen := Lib.splitB_all ⟨#[c]⟩ (Nat.le_refl 1) 0 _ s rfl
  rw [e1] at hlen
  have hl2 : (partS c s.data.toList).length = Lib.count s.data.toList [c] + 1 := by rw [← hd, List.length_map]; exact hlen
  refine (Tryd.strings_Split s ⟨#[c]⟩ m w (by omega) hm (Nat.le_refl 1)).mono ?_
  rintro e w' ⟨rfl, rfl⟩
  rw [e1, ← hl2]
  refine ⟨w.heap.size, _, rfl, Nat.le_refl _, by simp, ?_, Gr.alloc (Gr.refl w) _⟩
  have e3 : ((Lib.splitB ⟨#[c]⟩ 0 (Lib.count s.data.toList [c]) s).map Value.string) = scells (partS c s.data.toList) := by
    rw [← hd]
    unfold scells
    rw [List.map_map]
    rfl
  rw [e3]
  intro k hk'
  have : (scells (partS c s.data.toList))[k]? = some (.string ⟨((partS c s.data.toList)[k]).toArray⟩) := by simp [scells, List.getElem?_map, List.getElem?_eq_getElem hk']
  exact (cell_of_row _ _ _ _ _ _ (heap_alloc_new w _)).trans (by simpa using this)
end Go.Proofs.YtfnpmdcbhjabmaaDoor
