/- Contracts of rex.text's now, is, takes: the byte that is next. -/
import Derived.Test.YtpcmdijgepbilaaRxPairs
import Derived.Deep.QuietTactic
import Derived.BigQuiet
namespace Go.Proofs.Ytpcmdijgepbilaa
open Go.RowKit
set_option linter.unusedVariables false
set_option linter.unusedSimpArgs false

theorem Gr.drewM {a w : World} (h : Gr a w) (n : Nat) : Gr a (w.drewN n) := ⟨h.os, h.tape, h.output, h.size, h.block⟩
theorem drop_byte {s : ByteArray} {n : Nat} {c : UInt8} {r : List UInt8} (h : s.data.toList.drop n = c :: r) : ∃ hn : n < s.size, s[n] = c := by
  have hl : n < s.data.toList.length := by
    rcases Nat.lt_or_ge n s.data.toList.length with h1 | h1
    · exact h1
    · rw [List.drop_eq_nil_of_le h1] at h; cases h
  refine ⟨by simpa using hl, ?_⟩
  rw [List.drop_eq_getElem_cons hl] at h
  injection h with h1 _
theorem Rdr.byte {w : World} {R n : Nat} {s : ByteArray} {q : Rs} (h : Rdr w R s n q) {c : UInt8} {r : List UInt8} (hq : q.rest = c :: r) : ∃ hn : n < s.size, s[n] = c :=
  drop_byte (h.rest.trans hq)

set_option maxRecDepth 100000 in
set_option maxHeartbeats 800000 in
theorem now_end {w : World} {R n : Nat} {s : ByteArray} {q : Rs} (h : Rdr w R s n q) (hs : (s.size : Int) ≤ 4096) (hq : q.rest = []) :
    Calls Try.prog 27 #[.pointer (some ⟨R, 0, none⟩)] w fun e w' => e = .returned (.tuple #[.int .u8 0, .bool false]) ∧ Gr w w' := by
  have hl := h.len
  rw [hq] at hl
  have hn : s.size ≤ n := by simp at hl; omega
  obtain ⟨c0, c1⟩ := And.intro h.c0 h.c1
  clear h hq hl
  go_enter Try.func27, Try.ntmps27
  go_wp2
  go_quiet (fail)
  go_wp2
  go_ret2
  exact ⟨rfl, Gr.drewM (Gr.refl _) _⟩
set_option maxRecDepth 100000 in
set_option maxHeartbeats 800000 in
theorem now_some {w : World} {R n : Nat} {s : ByteArray} {q : Rs} (h : Rdr w R s n q) (hs : (s.size : Int) ≤ 4096) {c : UInt8} {r : List UInt8} (hq : q.rest = c :: r) :
    Calls Try.prog 27 #[.pointer (some ⟨R, 0, none⟩)] w fun e w' => e = .returned (.tuple #[.int .u8 c.toNat, .bool true]) ∧ Gr w w' := by
  obtain ⟨hn, hb⟩ := h.byte hq
  obtain ⟨c0, c1⟩ := And.intro h.c0 h.c1
  have hn' : (n : Int) < s.size := by omega
  clear h hq
  go_enter Try.func27, Try.ntmps27
  go_wp2
  go_quiet (fail)
  go_wp2
  go_quiet (fail)
  go_wp2
  go_ret2
  exact ⟨rfl, Gr.drewM (Gr.drewM (Gr.refl _) _) _⟩

set_option maxRecDepth 100000 in
set_option maxHeartbeats 800000 in
theorem is_no {w : World} {R n : Nat} {s : ByteArray} {q : Rs} (h : Rdr w R s n q) (hs : (s.size : Int) ≤ 4096) (c : Nat) (hc : c < 256) (hq : headIs c q.rest = false) :
    Calls Try.prog 29 #[.pointer (some ⟨R, 0, none⟩), .int .u8 c] w fun e w' => e = .returned (.bool false) ∧ Gr w w' := by
  match e : q.rest with
  | [] =>
    have Q := fun w (h : Rdr w R s n q) => now_end h hs e
    go_enter Try.func29, Try.ntmps29
    go_wp2_with (go_at_call 27; refine (Q _ h).mono ?_; rintro e w1 ⟨rfl, hg⟩)
    go_ret
    exact ⟨rfl, hg⟩
  | b :: r =>
    rw [e] at hq
    have hne : ((b.toNat : Int) == (c : Int)) = false := by
      have : ¬ b.toNat = c := by simpa [headIs] using hq
      exact beq_eq_false_iff_ne.2 (by omega)
    have hne' : (b.toNat == c) = false := by simpa [headIs] using hq
    have Q := fun w (h : Rdr w R s n q) => now_some h hs e
    clear hq
    go_enter Try.func29, Try.ntmps29
    go_wp2_with (go_at_call 27; refine (Q _ h).mono ?_; rintro e w1 ⟨rfl, hg⟩)
    go_ret
    exact ⟨rfl, hg⟩
set_option maxRecDepth 100000 in
set_option maxHeartbeats 800000 in
theorem is_yes {w : World} {R n : Nat} {s : ByteArray} {q : Rs} (h : Rdr w R s n q) (hs : (s.size : Int) ≤ 4096) (c : Nat) (hc : c < 256) (hq : headIs c q.rest = true) :
    Calls Try.prog 29 #[.pointer (some ⟨R, 0, none⟩), .int .u8 c] w fun e w' => e = .returned (.bool true) ∧ Gr w w' := by
  match e : q.rest with
  | [] => rw [e] at hq; cases hq
  | b :: r =>
    rw [e] at hq
    have hb : b.toNat = c := by simpa [headIs] using hq
    subst hb
    have Q := fun w (h : Rdr w R s n q) => now_some h hs e
    clear hq
    go_enter Try.func29, Try.ntmps29
    go_wp2_with (go_at_call 27; refine (Q _ h).mono ?_; rintro e w1 ⟨rfl, hg⟩)
    go_ret
    exact ⟨rfl, hg⟩

theorem headIs_cons {c : Nat} {l : List UInt8} (h : headIs c l = true) : ∃ b r, l = b :: r ∧ b.toNat = c := by
  cases l with
  | nil => cases h
  | cons b r => exact ⟨b, r, rfl, by simpa [headIs] using h⟩
/-- one byte further. -/
theorem Rdr.next {w : World} {R n : Nat} {s : ByteArray} {q : Rs} (h : Rdr w R s n q) {c : UInt8} {r : List UInt8} (hq : q.rest = c :: r) : Rdr (w.setCell ⟨R, 1, none⟩ (.int .i64 ((n : Int) + 1))) R s (n + 1) { q with rest := r } := by
  have hl := h.len
  have hr := h.rest
  rw [hq] at hl hr
  refine ⟨by simp at hl ⊢; omega, ?_, ?_, ?_, ?_, ?_, ?_, ?_, ?_, ?_, ?_, ?_, ?_, ?_⟩
  · show s.data.toList.drop (n + 1) = r
    rw [← List.drop_drop, hr]; rfl
  · exact (World.cell?_setCell_other w ⟨R, 1, none⟩ ⟨R, 0, none⟩ _ (by simp)).trans h.c0
  · have := h.c1; have := h.f1; go_simp
  · exact (World.cell?_setCell_other w ⟨R, 1, none⟩ ⟨R, 2, none⟩ _ (by simp)).trans h.c2
  · exact (World.cell?_setCell_other w ⟨R, 1, none⟩ ⟨R, 3, none⟩ _ (by simp)).trans h.c3
  · exact (World.cell?_setCell_other w ⟨R, 1, none⟩ ⟨R, 4, none⟩ _ (by simp)).trans h.c4
  · exact (World.cell?_setCell_other w ⟨R, 1, none⟩ ⟨R, 5, none⟩ _ (by simp)).trans h.c5
  · exact (by simp : (w.setCell ⟨R, 1, none⟩ _).frozen? ⟨R, 1, none⟩ = w.frozen? ⟨R, 1, none⟩).trans h.f1
  · exact (by simp : (w.setCell ⟨R, 1, none⟩ _).frozen? ⟨R, 2, none⟩ = w.frozen? ⟨R, 2, none⟩).trans h.f2
  · exact (by simp : (w.setCell ⟨R, 1, none⟩ _).frozen? ⟨R, 3, none⟩ = w.frozen? ⟨R, 3, none⟩).trans h.f3
  · exact (by simp : (w.setCell ⟨R, 1, none⟩ _).frozen? ⟨R, 4, none⟩ = w.frozen? ⟨R, 4, none⟩).trans h.f4
  · exact (by simp : (w.setCell ⟨R, 1, none⟩ _).frozen? ⟨R, 5, none⟩ = w.frozen? ⟨R, 5, none⟩).trans h.f5
  · simpa using h.lt
set_option maxRecDepth 100000 in
set_option maxHeartbeats 800000 in
theorem takes_no {w : World} {R n : Nat} {s : ByteArray} {q : Rs} (h : Rdr w R s n q) (hs : (s.size : Int) ≤ 4096) (c : Nat) (hc : c < 256) (hq : headIs c q.rest = false) :
    Calls Try.prog 20 #[.pointer (some ⟨R, 0, none⟩), .int .u8 c] w fun e w' => e = .returned (.bool false) ∧ Gr w w' := by
  have Q := fun w (h : Rdr w R s n q) => is_no h hs c hc hq
  clear hq
  go_enter Try.func20, Try.ntmps20
  go_wp2_with (go_at_call 29; refine (Q _ h).mono ?_; rintro e w1 ⟨rfl, hg⟩)
  go_ret
  exact ⟨rfl, hg⟩
set_option maxRecDepth 100000 in
set_option maxHeartbeats 800000 in
theorem takes_yes {w : World} {R n : Nat} {s : ByteArray} {q : Rs} (h : Rdr w R s n q) (hs : (s.size : Int) ≤ 4096) (c : Nat) (hc : c < 256) (hq : headIs c q.rest = true) :
    Calls Try.prog 20 #[.pointer (some ⟨R, 0, none⟩), .int .u8 c] w fun e w' => e = .returned (.bool true) ∧ GX R w w' ∧ Rdr w' R s (n + 1) { q with rest := q.rest.drop 1 } := by
  have Q := fun w (h : Rdr w R s n q) => is_yes h hs c hc hq
  obtain ⟨b, r, hr, -⟩ := headIs_cons hq
  have hle := h.len
  have hn : (n : Int) < 4096 := by rw [hr] at hle; simp at hle; omega
  clear hq hle
  go_enter Try.func20, Try.ntmps20
  go_wp2_with fail
  refine (Q _ h).mono ?_; rintro e w1 ⟨rfl, hg⟩
  have h1 := h.gr hg
  obtain ⟨c1, f1⟩ := And.intro h1.c1 h1.f1
  clear Q
  go_wp2
  go_ret
  refine ⟨rfl, GX.setCell (p := ⟨R, 1, none⟩) (GX.of_gr hg) (.inl rfl) _, ?_⟩
  have hn := h1.next hr
  rw [hr]
  exact hn
end Go.Proofs.Ytpcmdijgepbilaa
