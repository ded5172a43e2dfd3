/- Contracts of Cons, End, up and Own, of the program's package series and of the reference; of slices.Clone. -/
import Derived.Test.YtoikpkgogncdhaaSrIs
import Derived.Test.YtoikpkgogncdhaaAgKnown
import Derived.Lib.SliceRun
namespace Go.Proofs.Ytoikpkgogncdhaa
set_option linter.unusedVariables false
set_option linter.unusedSimpArgs false
open Go.RowKit

/-- a series is handed back, in whatever memory. -/
def RetS (s : Sr) (w : World) (e : Ending) (w' : World) : Prop := ∃ A c, e = .returned (.agg #[.string s.name, .int .i64 s.start, .int .i64 s.step, .slice A s.vals.length c, .int .i64 s.cons]) ∧ Rv w' A s.vals ∧ Gr w w' ∧ ∀ ad, A = some ad → w.heap.size ≤ ad.block
/-- a slice of values is handed back, in memory of its own. -/
def RetN (l : List Vl) (w : World) (e : Ending) (w' : World) : Prop := ∃ A c, e = .returned (.slice A l.length c) ∧ Rv w' A l ∧ Gr w w' ∧ ∀ ad, A = some ad → w.heap.size ≤ ad.block
theorem own_new {w : World} {base : Nat} {e : TypeId} {size n c : Nat} {A : Option Addr} {xs : List Value} (h : w.ownsRow base e size (.slice A n c) n xs) : ∀ ad, A = some ad → base ≤ ad.block := by
  intro ad had
  subst had
  obtain ⟨_, ⟨hv, _⟩ | ⟨g, cap, cur, hv, hb, _⟩⟩ := h
  · injection hv with h1; cases h1
  · injection hv with h1
    injection h1 with h1
    rw [h1]; exact hb
theorem Rv.set {w : World} {A : Option Addr} {l : List Vl} (h : Rv w A l) (p : Addr) (u : Value) (hne : ∀ ad, A = some ad → p.block < ad.block) : Rv (w.setCell p u) A l :=
  ⟨h.1, fun hn => by
    obtain ⟨ad, e, hb, hc⟩ := h.2 hn
    refine ⟨ad, e, by simpa using hb, fun j u' hu => ?_⟩
    rw [World.cell?_setCell_far _ _ _ _ (by rw [add_blk]; exact Nat.ne_of_lt (hne ad e))]
    exact hc j u' hu⟩
theorem own_empty (w : World) (base : Nat) (hb : base ≤ w.heap.size) (e : TypeId) (size : Nat) : (w.alloc (.cells #[] e)).ownsRow base e size (.slice (some ⟨w.heap.size, 0, none⟩) 0 0) 0 [] :=
  ⟨by simp, .inr ⟨w.heap.size, 0, #[], rfl, hb, heap_alloc_new w _, Nat.le_refl _, by unfold maxLen; omega, by simp, by simp⟩⟩

set_option maxRecDepth 100000 in
set_option maxHeartbeats 1600000 in
theorem scons_any (s : Sr) (A : Option Addr) (c : Nat) (w : World) (hr : Rv w A s.vals) :
    Calls Try.prog 24 #[.agg #[.string s.name, .int .i64 s.start, .int .i64 s.step, .slice A s.vals.length c, .int .i64 s.cons]] w fun e w' => e = .returned (.int .i64 (consS s)) ∧ Gr w w' := by
  by_cases h0 : s.cons = 0
  · have hS : consS s = 1 := by unfold consS; simp [h0]
    have hq : (s.cons == 0) = true := by simp [h0]
    rw [hS]
    clear h0 hS
    go_enter Try.func24, Try.ntmps24
    go_wp2
    go_ret
    exact ⟨rfl, (by repeat (first | exact Gr.refl _ | refine Gr.alloc ?_ _ | refine Gr.drew ?_ | refine Gr.setCell ?_ (by first | (simp; done) | (simp; omega) | omega) _ | refine Gr.trans ?_ (by assumption)))⟩
  · have hq : (s.cons == 0) = false := by simp [h0]
    have Q := fun w hr => sis_any s A c w hr
    cases hi : isS s
    · have hS : consS s = 1 := by unfold consS; simp [hi]
      simp only [hi] at Q
      rw [hS]
      clear h0 hS
      go_enter Try.func24, Try.ntmps24
      go_wp2_with fail
      refine (Q _ ?hr).mono ?_
      case hr => exact hr.gr (by repeat (first | exact Gr.refl _ | refine Gr.alloc ?_ _ | refine Gr.drew ?_ | refine Gr.setCell ?_ (by first | (simp; done) | (simp; omega) | omega) _ | refine Gr.trans ?_ (by assumption)))
      rintro e w1 ⟨rfl, hg⟩
      go_wp2
      go_ret
      exact ⟨rfl, (by repeat (first | exact Gr.refl _ | refine Gr.alloc ?_ _ | refine Gr.drew ?_ | refine Gr.setCell ?_ (by first | (simp; done) | (simp; omega) | omega) _ | refine Gr.trans ?_ (by assumption)))⟩
    · have hS : consS s = s.cons := by unfold consS; simp [hi, h0]
      simp only [hi] at Q
      rw [hS]
      clear h0 hS
      go_enter Try.func24, Try.ntmps24
      go_wp2_with fail
      refine (Q _ ?hr).mono ?_
      case hr => exact hr.gr (by repeat (first | exact Gr.refl _ | refine Gr.alloc ?_ _ | refine Gr.drew ?_ | refine Gr.setCell ?_ (by first | (simp; done) | (simp; omega) | omega) _ | refine Gr.trans ?_ (by assumption)))
      rintro e w1 ⟨rfl, hg⟩
      have hc4 : w1.cell? ⟨w.heap.size, 4, none⟩ = some (.int .i64 s.cons) := (hg.cell (p := ⟨w.heap.size, 4, none⟩) (by simp)).trans (by go_simp)
      go_wp2
      go_ret
      exact ⟨rfl, (by repeat (first | exact Gr.refl _ | refine Gr.alloc ?_ _ | refine Gr.drew ?_ | refine Gr.setCell ?_ (by first | (simp; done) | (simp; omega) | omega) _ | refine Gr.trans ?_ (by assumption)))⟩

set_option maxRecDepth 100000 in
set_option maxHeartbeats 1600000 in
theorem send_any (s : Sr) (A : Option Addr) (c : Nat) (w : World) (hr : Rv w A s.vals) :
    Calls Try.prog 22 #[.agg #[.string s.name, .int .i64 s.start, .int .i64 s.step, .slice A s.vals.length c, .int .i64 s.cons]] w fun e w' => e = .returned (.int .i64 (endS s)) ∧ Gr w w' := by
  have Q := fun w hr => sis_any s A c w hr
  cases hi : isS s
  · have hS : endS s = 0 := by unfold endS; simp [hi]
    simp only [hi] at Q
    rw [hS]
    clear hS
    go_enter Try.func22, Try.ntmps22
    go_wp2_with fail
    refine (Q _ ?hr).mono ?_
    case hr => exact hr.gr (by repeat (first | exact Gr.refl _ | refine Gr.alloc ?_ _ | refine Gr.drew ?_ | refine Gr.setCell ?_ (by first | (simp; done) | (simp; omega) | omega) _ | refine Gr.trans ?_ (by assumption)))
    rintro e w1 ⟨rfl, hg⟩
    go_wp2
    go_ret
    exact ⟨rfl, (by repeat (first | exact Gr.refl _ | refine Gr.alloc ?_ _ | refine Gr.drew ?_ | refine Gr.setCell ?_ (by first | (simp; done) | (simp; omega) | omega) _ | refine Gr.trans ?_ (by assumption)))⟩
  · have hS : endS s = s.start + s.vals.length * s.step := by unfold endS; simp [hi]
    have ho := (isS_iff s).1 hi
    have b0 := ho.s0; have b1 := ho.s1; have b2 := ho.p0; have b3 := ho.p1; have b4 := ho.len
    have m0 : 0 ≤ (s.vals.length : Int) * s.step := Int.mul_nonneg (by omega) (by omega)
    have m1 : (s.vals.length : Int) * s.step ≤ 144115188075855872 := by
      have : (s.vals.length : Int) * s.step ≤ 131072 * 1099511627776 := Int.mul_le_mul b4 b3 (by omega) (by omega)
      omega
    simp only [hi] at Q
    rw [hS]
    clear hS ho
    go_enter Try.func22, Try.ntmps22
    go_wp2_with fail
    refine (Q _ ?hr).mono ?_
    case hr => exact hr.gr (by repeat (first | exact Gr.refl _ | refine Gr.alloc ?_ _ | refine Gr.drew ?_ | refine Gr.setCell ?_ (by first | (simp; done) | (simp; omega) | omega) _ | refine Gr.trans ?_ (by assumption)))
    rintro e w1 ⟨rfl, hg⟩
    have hc1 : w1.cell? ⟨w.heap.size, 1, none⟩ = some (.int .i64 s.start) := (hg.cell (p := ⟨w.heap.size, 1, none⟩) (by simp)).trans (by go_simp)
    have hc2 : w1.cell? ⟨w.heap.size, 2, none⟩ = some (.int .i64 s.step) := (hg.cell (p := ⟨w.heap.size, 2, none⟩) (by simp)).trans (by go_simp)
    have hc3 : w1.cell? ⟨w.heap.size, 3, none⟩ = some (.slice A s.vals.length c) := (hg.cell (p := ⟨w.heap.size, 3, none⟩) (by simp)).trans (by go_simp)
    go_wp2
    go_ret
    exact ⟨rfl, (by repeat (first | exact Gr.refl _ | refine Gr.alloc ?_ _ | refine Gr.drew ?_ | refine Gr.setCell ?_ (by first | (simp; done) | (simp; omega) | omega) _ | refine Gr.trans ?_ (by assumption)))⟩

set_option maxRecDepth 100000 in
set_option maxHeartbeats 1600000 in
theorem rscons_any (s : Sr) (A : Option Addr) (c : Nat) (w : World) (hr : Rv w A s.vals) :
    Calls Try.prog 20 #[.agg #[.string s.name, .int .i64 s.start, .int .i64 s.step, .slice A s.vals.length c, .int .i64 s.cons]] w fun e w' => e = .returned (.int .i64 (consS s)) ∧ Gr w w' := by
  by_cases h0 : s.cons = 0
  · have hS : consS s = 1 := by unfold consS; simp [h0]
    have hq : (s.cons == 0) = true := by simp [h0]
    rw [hS]
    clear h0 hS
    go_enter Try.func20, Try.ntmps20
    go_wp2
    go_ret
    exact ⟨rfl, (by repeat (first | exact Gr.refl _ | refine Gr.alloc ?_ _ | refine Gr.drew ?_ | refine Gr.setCell ?_ (by first | (simp; done) | (simp; omega) | omega) _ | refine Gr.trans ?_ (by assumption)))⟩
  · have hq : (s.cons == 0) = false := by simp [h0]
    have Q := fun w hr => rsis_any s A c w hr
    cases hi : isS s
    · have hS : consS s = 1 := by unfold consS; simp [hi]
      simp only [hi] at Q
      rw [hS]
      clear h0 hS
      go_enter Try.func20, Try.ntmps20
      go_wp2_with fail
      refine (Q _ ?hr).mono ?_
      case hr => exact hr.gr (by repeat (first | exact Gr.refl _ | refine Gr.alloc ?_ _ | refine Gr.drew ?_ | refine Gr.setCell ?_ (by first | (simp; done) | (simp; omega) | omega) _ | refine Gr.trans ?_ (by assumption)))
      rintro e w1 ⟨rfl, hg⟩
      go_wp2
      go_ret
      exact ⟨rfl, (by repeat (first | exact Gr.refl _ | refine Gr.alloc ?_ _ | refine Gr.drew ?_ | refine Gr.setCell ?_ (by first | (simp; done) | (simp; omega) | omega) _ | refine Gr.trans ?_ (by assumption)))⟩
    · have hS : consS s = s.cons := by unfold consS; simp [hi, h0]
      simp only [hi] at Q
      rw [hS]
      clear h0 hS
      go_enter Try.func20, Try.ntmps20
      go_wp2_with fail
      refine (Q _ ?hr).mono ?_
      case hr => exact hr.gr (by repeat (first | exact Gr.refl _ | refine Gr.alloc ?_ _ | refine Gr.drew ?_ | refine Gr.setCell ?_ (by first | (simp; done) | (simp; omega) | omega) _ | refine Gr.trans ?_ (by assumption)))
      rintro e w1 ⟨rfl, hg⟩
      have hc4 : w1.cell? ⟨w.heap.size, 4, none⟩ = some (.int .i64 s.cons) := (hg.cell (p := ⟨w.heap.size, 4, none⟩) (by simp)).trans (by go_simp)
      go_wp2
      go_ret
      exact ⟨rfl, (by repeat (first | exact Gr.refl _ | refine Gr.alloc ?_ _ | refine Gr.drew ?_ | refine Gr.setCell ?_ (by first | (simp; done) | (simp; omega) | omega) _ | refine Gr.trans ?_ (by assumption)))⟩

set_option maxRecDepth 100000 in
set_option maxHeartbeats 1600000 in
theorem rsend_any (s : Sr) (A : Option Addr) (c : Nat) (w : World) (hr : Rv w A s.vals) :
    Calls Try.prog 23 #[.agg #[.string s.name, .int .i64 s.start, .int .i64 s.step, .slice A s.vals.length c, .int .i64 s.cons]] w fun e w' => e = .returned (.int .i64 (endS s)) ∧ Gr w w' := by
  have Q := fun w hr => rsis_any s A c w hr
  cases hi : isS s
  · have hS : endS s = 0 := by unfold endS; simp [hi]
    simp only [hi] at Q
    rw [hS]
    clear hS
    go_enter Try.func23, Try.ntmps23
    go_wp2_with fail
    refine (Q _ ?hr).mono ?_
    case hr => exact hr.gr (by repeat (first | exact Gr.refl _ | refine Gr.alloc ?_ _ | refine Gr.drew ?_ | refine Gr.setCell ?_ (by first | (simp; done) | (simp; omega) | omega) _ | refine Gr.trans ?_ (by assumption)))
    rintro e w1 ⟨rfl, hg⟩
    go_wp2
    go_ret
    exact ⟨rfl, (by repeat (first | exact Gr.refl _ | refine Gr.alloc ?_ _ | refine Gr.drew ?_ | refine Gr.setCell ?_ (by first | (simp; done) | (simp; omega) | omega) _ | refine Gr.trans ?_ (by assumption)))⟩
  · have hS : endS s = s.start + s.vals.length * s.step := by unfold endS; simp [hi]
    have ho := (isS_iff s).1 hi
    have b0 := ho.s0; have b1 := ho.s1; have b2 := ho.p0; have b3 := ho.p1; have b4 := ho.len
    have m0 : 0 ≤ (s.vals.length : Int) * s.step := Int.mul_nonneg (by omega) (by omega)
    have m1 : (s.vals.length : Int) * s.step ≤ 144115188075855872 := by
      have : (s.vals.length : Int) * s.step ≤ 131072 * 1099511627776 := Int.mul_le_mul b4 b3 (by omega) (by omega)
      omega
    simp only [hi] at Q
    rw [hS]
    clear hS ho
    go_enter Try.func23, Try.ntmps23
    go_wp2_with fail
    refine (Q _ ?hr).mono ?_
    case hr => exact hr.gr (by repeat (first | exact Gr.refl _ | refine Gr.alloc ?_ _ | refine Gr.drew ?_ | refine Gr.setCell ?_ (by first | (simp; done) | (simp; omega) | omega) _ | refine Gr.trans ?_ (by assumption)))
    rintro e w1 ⟨rfl, hg⟩
    have hc1 : w1.cell? ⟨w.heap.size, 1, none⟩ = some (.int .i64 s.start) := (hg.cell (p := ⟨w.heap.size, 1, none⟩) (by simp)).trans (by go_simp)
    have hc2 : w1.cell? ⟨w.heap.size, 2, none⟩ = some (.int .i64 s.step) := (hg.cell (p := ⟨w.heap.size, 2, none⟩) (by simp)).trans (by go_simp)
    have hc3 : w1.cell? ⟨w.heap.size, 3, none⟩ = some (.slice A s.vals.length c) := (hg.cell (p := ⟨w.heap.size, 3, none⟩) (by simp)).trans (by go_simp)
    go_wp2
    go_ret
    exact ⟨rfl, (by repeat (first | exact Gr.refl _ | refine Gr.alloc ?_ _ | refine Gr.drew ?_ | refine Gr.setCell ?_ (by first | (simp; done) | (simp; omega) | omega) _ | refine Gr.trans ?_ (by assumption)))⟩

set_option maxRecDepth 100000 in
set_option maxHeartbeats 1600000 in
theorem up_any (n b : Int) (w : World) (h0 : 0 ≤ n) (h1 : n ≤ 288230376151711744) (h2 : 1 ≤ b) (h3 : b ≤ 1099511627776) :
    Calls Try.prog 36 #[.int .i64 n, .int .i64 b] w fun e w' => e = .returned (.int .i64 (upI n b)) ∧ Gr w w' := by
  have hS : upI n b = Int.tdiv (n + b - 1) b := by unfold upI; rw [Int.tdiv_eq_ediv_of_nonneg (by omega)]
  have d0 : 0 ≤ Int.tdiv (n + b - 1) b := Int.tdiv_nonneg (by omega) (by omega)
  have d1 : Int.tdiv (n + b - 1) b ≤ n + b - 1 := by
    rw [Int.tdiv_eq_ediv_of_nonneg (by omega)]; exact Int.ediv_le_self _ (by omega)
  have hb : b ≠ 0 := by omega
  have hb' : (b == 0) = false := by simp [hb]
  rw [hS]
  clear hS
  go_enter Try.func36, Try.ntmps36
  go_wp2
  go_ret
  exact ⟨rfl, (by repeat (first | exact Gr.refl _ | refine Gr.alloc ?_ _ | refine Gr.drew ?_ | refine Gr.setCell ?_ (by first | (simp; done) | (simp; omega) | omega) _ | refine Gr.trans ?_ (by assumption)))⟩

set_option maxRecDepth 100000 in
set_option maxHeartbeats 1600000 in
theorem clone_any (A : Option Addr) (c : Nat) (l : List Vl) (w : World) (hl : l.length ≤ 1000000) (hr : Rv w A l) :
    Calls Try.prog 46 #[.slice A l.length c] w (RetN l w) := by
  cases A with
  | none =>
    have h0 : l = [] := by
      rcases Nat.eq_zero_or_pos l.length with h | h
      · exact List.eq_nil_of_length_eq_zero h
      · obtain ⟨ad, e, _⟩ := hr.2 h; cases e
    subst h0
    have q22 : ∀ (w : World) (a : Option Addr) (n c n' c' : Nat), (binOp .eql 22 (.slice a n c) (.slice none n' c')).run Try.prog w = .ok (.bool a.isNone) w := fun w a n c n' c' => Lib.run_eql_slice_nil w _ _ a n c n' c' Try.underlying22
    go_enter Try.func46, Try.ntmps46
    go_wp2
    go_ret
    exact ⟨none, 0, rfl, Rv.nil _ _, (by repeat (first | exact Gr.refl _ | refine Gr.alloc ?_ _ | refine Gr.drew ?_ | refine Gr.setCell ?_ (by first | (simp; done) | (simp; omega) | omega) _ | refine Gr.trans ?_ (by assumption))), fun ad h => by cases h⟩
  | some ad =>
    obtain ⟨i0, hi, hz0, hz1, hz2⟩ := info_parts info_val
    have hown0 := own_empty w w.heap.size (Nat.le_refl _) 34 2
    have hr0 := hr.gr (Gr.alloc (Gr.refl w) (.cells #[] 34))
    have q22 : ∀ (w : World) (a : Option Addr) (n c n' c' : Nat), (binOp .eql 22 (.slice a n c) (.slice none n' c')).run Try.prog w = .ok (.bool a.isNone) w := fun w a n c n' c' => Lib.run_eql_slice_nil w _ _ a n c n' c' Try.underlying22
    go_enter Try.func46, Try.ntmps46
    go_wp2_with (at_builtin; refine wpList_append_rd rfl (.tmp 5) (.tmp 6) 22 rfl w.heap.size 34 i0 _ 2 16 Try.underlying22 hi hz0 hz1 hz2 rfl (by decide) _ _ _ rfl hown0 (some ad) l.length c (vcells l) rfl hr0 (vcells_one _) (by unfold maxLen; omega) (by omega) (by simp) ?_; intro v' w2 hown2 hgr2 hat2)
    have hg2 : Gr w w2 := Gr.grown (Gr.alloc (Gr.refl w) _) hgr2 (fun k hk => by have h : some w.heap.size = some k := hk; injection h with h; omega)
    rw [Nat.zero_add, List.nil_append] at hown2
    obtain ⟨A', c', hv⟩ := own_form hown2
    subst hv
    clear hgr2 hat2 hown0 hr0
    go_wp2
    go_ret
    exact ⟨A', c', rfl, Rd.own hown2, hg2, own_new hown2⟩

end Go.Proofs.Ytoikpkgogncdhaa
