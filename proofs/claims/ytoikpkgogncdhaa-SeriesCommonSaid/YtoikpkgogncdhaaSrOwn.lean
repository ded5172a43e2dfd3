/- Contracts of Own: a series in memory of its own, of the program's package series and of the reference. -/
import Derived.Test.YtoikpkgogncdhaaSrSmall
namespace Go.Proofs.Ytoikpkgogncdhaa
set_option linter.unusedVariables false
set_option linter.unusedSimpArgs false
open Go.RowKit

theorem own_at (B : Nat) (w : World) (hB : B = w.heap.size) (e : TypeId) (size : Nat) : (w.alloc (.cells #[] e)).ownsRow B e size (.slice (some ⟨B, 0, none⟩) 0 0) 0 [] := by
  subst hB; exact own_empty w _ (Nat.le_refl _) e size

set_option maxRecDepth 100000 in
set_option maxHeartbeats 1600000 in
theorem own_any (s : Sr) (A : Option Addr) (c : Nat) (w : World) (hl : s.vals.length ≤ 1000000) (hr : Rv w A s.vals) :
    Calls Try.prog 27 #[.agg #[.string s.name, .int .i64 s.start, .int .i64 s.step, .slice A s.vals.length c, .int .i64 s.cons]] w (RetS s w) := by
  go_enter Try.func27, Try.ntmps27
  go_wp2_with fail
  refine (clone_any A c s.vals _ hl ?hr).mono ?_
  case hr => exact hr.gr (by repeat (first | exact Gr.refl _ | refine Gr.alloc ?_ _ | refine Gr.drew ?_ | refine Gr.setCell ?_ (by first | (simp; done) | (simp; omega) | omega) _ | refine Gr.trans ?_ (by assumption)))
  rintro e w1 ⟨A', c', rfl, hrv, hg, hnew⟩
  obtain ⟨hc, hf⟩ := hg.cells
  have z1 := hg.size
  simp at z1
  have z0 : w.heap.size < w1.heap.size := by omega
  have z2 : w.heap.size + 1 < w1.heap.size := by omega
  have hgw : Gr w w1 := (by repeat (first | exact Gr.refl _ | refine Gr.alloc ?_ _ | refine Gr.drew ?_ | refine Gr.setCell ?_ (by first | (simp; done) | (simp; omega) | omega) _ | refine Gr.trans ?_ (by assumption)))
  have q0 : w1.cell? ⟨w.heap.size, 0, none⟩ = some (.string s.name) := by go_simp
  have f0 : w1.frozen? ⟨w.heap.size, 0, none⟩ = false := by go_simp
  have q1 : w1.cell? ⟨w.heap.size, 1, none⟩ = some (.int .i64 s.start) := by go_simp
  have f1 : w1.frozen? ⟨w.heap.size, 1, none⟩ = false := by go_simp
  have q2 : w1.cell? ⟨w.heap.size, 2, none⟩ = some (.int .i64 s.step) := by go_simp
  have f2 : w1.frozen? ⟨w.heap.size, 2, none⟩ = false := by go_simp
  have q3 : w1.cell? ⟨w.heap.size, 3, none⟩ = some (.slice A s.vals.length c) := by go_simp
  have f3 : w1.frozen? ⟨w.heap.size, 3, none⟩ = false := by go_simp
  have q4 : w1.cell? ⟨w.heap.size, 4, none⟩ = some (.int .i64 s.cons) := by go_simp
  have f4 : w1.frozen? ⟨w.heap.size, 4, none⟩ = false := by go_simp
  have p0 : w1.cell? ⟨w.heap.size + 1, 0, none⟩ = some (.string ⟨#[]⟩) := by go_simp
  have g0 : w1.frozen? ⟨w.heap.size + 1, 0, none⟩ = false := by go_simp
  have p1 : w1.cell? ⟨w.heap.size + 1, 1, none⟩ = some (.int .i64 0) := by go_simp
  have g1 : w1.frozen? ⟨w.heap.size + 1, 1, none⟩ = false := by go_simp
  have p2 : w1.cell? ⟨w.heap.size + 1, 2, none⟩ = some (.int .i64 0) := by go_simp
  have g2 : w1.frozen? ⟨w.heap.size + 1, 2, none⟩ = false := by go_simp
  have p3 : w1.cell? ⟨w.heap.size + 1, 3, none⟩ = some (.slice none 0 0) := by go_simp
  have g3 : w1.frozen? ⟨w.heap.size + 1, 3, none⟩ = false := by go_simp
  have p4 : w1.cell? ⟨w.heap.size + 1, 4, none⟩ = some (.int .i64 0) := by go_simp
  have g4 : w1.frozen? ⟨w.heap.size + 1, 4, none⟩ = false := by go_simp
  have hn1 : ∀ ad, A' = some ad → w.heap.size + 1 < ad.block := fun ad h => by have := hnew ad h; simp at this; omega
  have hn0 : ∀ ad, A' = some ad → w.heap.size < ad.block := fun ad h => by have := hn1 ad h; omega
  clear hc hf hg hnew
  go_wp2
  refine bodyPost_ret (v := .agg #[.string s.name, .int .i64 s.start, .int .i64 s.step, .slice A' s.vals.length c', .int .i64 s.cons]) (by simp [results, Try.results27, go_sem, *]) rfl ⟨A', c', rfl, ?_, ?_, ?_⟩
  · exact (Rv.set (Rv.set (Rv.set (Rv.set (Rv.set (Rv.set hrv _ _ hn0) _ _ hn1) _ _ hn1) _ _ hn1) _ _ hn1) _ _ hn1)
  · exact (Gr.setCell (Gr.setCell (Gr.setCell (Gr.setCell (Gr.setCell (Gr.setCell hgw (Nat.le_refl _) _) (Nat.le_succ _) _) (Nat.le_succ _) _) (Nat.le_succ _) _) (Nat.le_succ _) _) (Nat.le_succ _) _)
  · exact fun ad h => Nat.le_of_lt (hn0 ad h)

set_option maxRecDepth 100000 in
set_option maxHeartbeats 1600000 in
theorem rown_any (s : Sr) (A : Option Addr) (c : Nat) (w : World) (hl : s.vals.length ≤ 1000000) (hr : Rv w A s.vals) :
    Calls Try.prog 35 #[.agg #[.string s.name, .int .i64 s.start, .int .i64 s.step, .slice A s.vals.length c, .int .i64 s.cons]] w (RetS s w) := by
  obtain ⟨i0, hi, hz0, hz1, hz2⟩ := info_parts info_val
  have hown0 := own_at (w.heap.size + 1 + 1) ((w.alloc (.cells #[.string s.name, .int .i64 s.start, .int .i64 s.step, .slice A s.vals.length c, .int .i64 s.cons] 24)).alloc (.cells #[.string ⟨#[]⟩, .int .i64 0, .int .i64 0, .slice none 0 0, .int .i64 0] 24)) (by simp) 34 2
  have hr0 := hr.gr (Gr.alloc (Gr.alloc (Gr.alloc (Gr.refl w) (.cells #[.string s.name, .int .i64 s.start, .int .i64 s.step, .slice A s.vals.length c, .int .i64 s.cons] 24)) (.cells #[.string ⟨#[]⟩, .int .i64 0, .int .i64 0, .slice none 0 0, .int .i64 0] 24)) (.cells #[] 34))
  have hg0 := Gr.alloc (Gr.alloc (Gr.alloc (Gr.refl w) (.cells #[.string s.name, .int .i64 s.start, .int .i64 s.step, .slice A s.vals.length c, .int .i64 s.cons] 24)) (.cells #[.string ⟨#[]⟩, .int .i64 0, .int .i64 0, .slice none 0 0, .int .i64 0] 24)) (.cells #[] 34)
  have hg1 := Gr.alloc (Gr.refl ((w.alloc (.cells #[.string s.name, .int .i64 s.start, .int .i64 s.step, .slice A s.vals.length c, .int .i64 s.cons] 24)).alloc (.cells #[.string ⟨#[]⟩, .int .i64 0, .int .i64 0, .slice none 0 0, .int .i64 0] 24))) (.cells #[] 34)
  go_enter Try.func35, Try.ntmps35
  go_wp2_with
    (at_builtin
     refine wpList_append_rd rfl (.tmp 3) (.tmp 5) 22 rfl (w.heap.size + 1 + 1) 34 i0 _ 2 16 Try.underlying22 hi hz0 hz1 hz2 rfl (by decide) _ _ _ rfl hown0 A s.vals.length c (vcells s.vals) rfl hr0 (vcells_one _) (by unfold maxLen; omega) (by omega) (by simp) ?_
     intro v' w1 hown2 hgr2 hat2
     have hgw : Gr w w1 := Gr.grown hg0 hgr2 (fun k hk => by have h : some (w.heap.size + 1 + 1) = some k := hk; injection h with h; omega)
     have hgB := Gr.grown hg1 hgr2 (fun k hk => by have h : some (w.heap.size + 1 + 1) = some k := hk; injection h with h; simp; omega)
     rw [Nat.zero_add, List.nil_append] at hown2
     obtain ⟨A', c', hv⟩ := own_form hown2
     subst hv
     have hrv := Rd.own hown2
     have hn1 : ∀ ad, A' = some ad → w.heap.size + 1 < ad.block := fun ad h => by have := own_new hown2 ad h; omega
     have hn0 : ∀ ad, A' = some ad → w.heap.size < ad.block := fun ad h => by have := hn1 ad h; omega
     obtain ⟨hc, hf⟩ := hgB.cells
     have z1 := hgB.size
     simp at z1
     have z0 : w.heap.size < w1.heap.size := by omega
     have z2 : w.heap.size + 1 < w1.heap.size := by omega
     have q0 : w1.cell? ⟨w.heap.size, 0, none⟩ = some (.string s.name) := by go_simp
     have f0 : w1.frozen? ⟨w.heap.size, 0, none⟩ = false := by go_simp
     have q1 : w1.cell? ⟨w.heap.size, 1, none⟩ = some (.int .i64 s.start) := by go_simp
     have f1 : w1.frozen? ⟨w.heap.size, 1, none⟩ = false := by go_simp
     have q2 : w1.cell? ⟨w.heap.size, 2, none⟩ = some (.int .i64 s.step) := by go_simp
     have f2 : w1.frozen? ⟨w.heap.size, 2, none⟩ = false := by go_simp
     have q3 : w1.cell? ⟨w.heap.size, 3, none⟩ = some (.slice A s.vals.length c) := by go_simp
     have f3 : w1.frozen? ⟨w.heap.size, 3, none⟩ = false := by go_simp
     have q4 : w1.cell? ⟨w.heap.size, 4, none⟩ = some (.int .i64 s.cons) := by go_simp
     have f4 : w1.frozen? ⟨w.heap.size, 4, none⟩ = false := by go_simp
     have p0 : w1.cell? ⟨w.heap.size + 1, 0, none⟩ = some (.string ⟨#[]⟩) := by go_simp
     have g0 : w1.frozen? ⟨w.heap.size + 1, 0, none⟩ = false := by go_simp
     have p1 : w1.cell? ⟨w.heap.size + 1, 1, none⟩ = some (.int .i64 0) := by go_simp
     have g1 : w1.frozen? ⟨w.heap.size + 1, 1, none⟩ = false := by go_simp
     have p2 : w1.cell? ⟨w.heap.size + 1, 2, none⟩ = some (.int .i64 0) := by go_simp
     have g2 : w1.frozen? ⟨w.heap.size + 1, 2, none⟩ = false := by go_simp
     have p3 : w1.cell? ⟨w.heap.size + 1, 3, none⟩ = some (.slice none 0 0) := by go_simp
     have g3 : w1.frozen? ⟨w.heap.size + 1, 3, none⟩ = false := by go_simp
     have p4 : w1.cell? ⟨w.heap.size + 1, 4, none⟩ = some (.int .i64 0) := by go_simp
     have g4 : w1.frozen? ⟨w.heap.size + 1, 4, none⟩ = false := by go_simp
     clear hc hf hgB hg0 hg1 hgr2 hat2 hown2 hown0 hr0)
  refine bodyPost_ret (v := .agg #[.string s.name, .int .i64 s.start, .int .i64 s.step, .slice A' s.vals.length c', .int .i64 s.cons]) (by simp [results, Try.results35, go_sem, *]) rfl ⟨A', c', rfl, ?_, ?_, ?_⟩
  · exact (Rv.set (Rv.set (Rv.set (Rv.set (Rv.set (Rv.set hrv _ _ hn0) _ _ hn1) _ _ hn1) _ _ hn1) _ _ hn1) _ _ hn1)
  · exact (Gr.setCell (Gr.setCell (Gr.setCell (Gr.setCell (Gr.setCell (Gr.setCell hgw (Nat.le_refl _) _) (Nat.le_succ _) _) (Nat.le_succ _) _) (Nat.le_succ _) _) (Nat.le_succ _) _) (Nat.le_succ _) _)
  · exact fun ad h => Nat.le_of_lt (hn0 ad h)
end Go.Proofs.Ytoikpkgogncdhaa
