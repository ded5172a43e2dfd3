/- Rows of archives; how great a file is: whead.size. -/
import Derived.Test.YtfnpmdcbhjabmaaDoorRuFit
namespace Go.Proofs.YtfnpmdcbhjabmaaDoor
set_option linter.unusedVariables false
set_option linter.unusedSimpArgs false
open Go.RowKit

/-- at A there is the row l of archives. -/
def Ra (w : World) (A : Option Addr) (l : List (Nat × Nat)) : Prop :=
  0 < l.length → ∃ b, A = some ⟨b, 0, none⟩ ∧ b < w.heap.size ∧ ∀ k (h : k < l.length), w.cell? ⟨b, k * 2, none⟩ = some (.int .i64 (l[k].1 : Nat)) ∧ w.cell? ⟨b, k * 2 + 1, none⟩ = some (.int .i64 (l[k].2 : Nat))
theorem Ra.gr {w w' : World} {A : Option Addr} {l : List (Nat × Nat)} (h : Ra w A l) (g : Gr w w') : Ra w' A l := fun h0 => by
  obtain ⟨b, e, hb, hc⟩ := h h0
  exact ⟨b, e, Nat.lt_of_lt_of_le hb g.size, fun k hk => ⟨(Below.cell g (p := ⟨b, k * 2, none⟩) hb).trans (hc k hk).1, (Below.cell g (p := ⟨b, k * 2 + 1, none⟩) hb).trans (hc k hk).2⟩⟩
theorem Ra.nil (w : World) (A : Option Addr) : Ra w A [] := fun h => absurd h (Nat.lt_irrefl _)
theorem sizeS_take {l : List (Nat × Nat)} {k : Nat} (h : k < l.length) : sizeS (l.take (k + 1)) = sizeS (l.take k) + (12 + 12 * l[k].2) := by
  unfold sizeS
  rw [List.take_succ_eq_append_getElem h, List.map_append, List.sum_append]
  simp only [List.map_cons, List.map_nil, List.sum_cons, List.sum_nil]
  omega
theorem sizeS_mono (l : List (Nat × Nat)) (k : Nat) : sizeS (l.take k) ≤ sizeS l := by
  unfold sizeS
  conv => rhs; rw [← List.take_append_drop k l, List.map_append, List.sum_append]
  omega
theorem sizeS_bound (l : List (Nat × Nat)) (h : ∀ a ∈ l, a.2 ≤ 16777216) : sizeS l ≤ 16 + l.length * 201326604 := by
  unfold sizeS
  induction l with
  | nil => simp
  | cons a l ih =>
    have h1 := ih (fun x hx => h x (List.mem_cons_of_mem _ hx))
    have h2 := h a (List.mem_cons_self ..)
    simp only [List.map_cons, List.sum_cons, List.length_cons]
    omega
set_option maxRecDepth 100000 in
set_option maxHeartbeats 6400000 in
theorem whead_size (A : Option Addr) (c : Nat) (l : List (Nat × Nat)) (hl : l.length ≤ 8) (h2 : ∀ a ∈ l, a.2 ≤ 16777216) (w : World) (hr : Ra w A l) : Calls Tryd.prog 29 #[.agg #[.int .i64 1, .int .i64 0, .slice A l.length c]] w fun e w' => e = .returned (.int .i64 (sizeS l : Nat)) ∧ Gr w w' := by
  have hli : (l.length : Int) ≤ 8 := by omega
  obtain ⟨V, hV⟩ : ∃ V, V = w.alloc (.cells #[.int .i64 1, .int .i64 0, .slice A l.length c] 33) := ⟨_, rfl⟩
  have gV : Gr w V := by rw [hV]; exact Gr.alloc (Gr.refl w) _
  have hz : w.heap.size < V.heap.size := by rw [hV]; simp
  have c2 : V.cell? ⟨w.heap.size, 2, none⟩ = some (.slice A l.length c) := by rw [hV]; go_simp
  have HV := Lib.hid hV
  have HG := Lib.hid gV
  have HR := Lib.hid (hr.gr gV)
  have HB := Lib.hid (And.intro hl h2)
  clear hV gV hr hl h2
  go_enter Tryd.func29, Tryd.ntmps29
  go_upto_region 1 with (fail)
  rw [← HV.out]
  clear HV
  go_wp2
  go_loopw [9, 3] (fun i n wr => ∃ k : Nat, k ≤ l.length ∧ i = .int .i64 k ∧ n = .int .i64 (sizeS (l.take k) : Nat) ∧ Gr V wr) (fun i _ _ => l.length - (intOf i).toNat)
  case atStart => exact ⟨0, Nat.zero_le _, rfl, rfl, Gr.refl _⟩
  case round =>
    obtain ⟨k, hk, rfl, rfl, hgr⟩ := hrel
    by_cases hlt : k < l.length
    · have hlt' : (k : Int) < (l.length : Int) := by omega
      obtain ⟨b, rfl, hb, hc⟩ := (HR.out.gr hgr) (by omega)
      obtain ⟨d0, d1⟩ := hc k hlt
      have hs := sizeS_take hlt
      have hb1 := HB.out.2 l[k] (List.getElem_mem hlt)
      have hb2 := sizeS_bound (l.take (k + 1)) (fun a ha => HB.out.2 a (List.mem_of_mem_take ha))
      rw [List.length_take, Nat.min_eq_left (by omega)] at hb2
      have HS := Lib.hid hs
      have Hgr := Lib.hid hgr
      generalize l[k].1 = x1 at *
      generalize l[k].2 = x2 at *
      obtain ⟨N, hN⟩ : ∃ N, N = sizeS (l.take k) := ⟨_, rfl⟩
      rw [← hN] at HS ⊢
      have hNi : (N : Int) + (12 + 12 * (x2 : Int)) ≤ 2000000000 := by have := HS.out; omega
      have hx2 : (x2 : Int) ≤ 16777216 := by omega
      clear hc hs hb1 hb2 hgr hN
      go_wp2
      go_roundw
      case rel => exact ⟨k + 1, by omega, by go_num, by rw [HS.out]; go_num, (by repeat (first | exact Gr.refl _ | refine Gr.alloc ?_ _ | refine Gr.drew ?_ | refine Gr.setCell ?_ (by first | (simp; done) | (simp; omega) | omega) _ | refine Gr.trans ?_ (by assumption)))⟩
      case measure => simp [intOf]; omega
    · have hkk : k = l.length := by omega
      subst hkk
      have HK := Lib.hid hgr
      clear hgr
      go_wp2
      go_ret
      exact ⟨ret_i (by rw [List.take_length]), HG.out.trans HK.out⟩
end Go.Proofs.YtfnpmdcbhjabmaaDoor
