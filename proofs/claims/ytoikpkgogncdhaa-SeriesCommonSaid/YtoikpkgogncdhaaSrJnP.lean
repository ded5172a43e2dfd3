/- Series joined: plain laws of the loops, and what is handed back. -/
import Derived.Test.YtoikpkgogncdhaaSrJnA
import Derived.Test.YtoikpkgogncdhaaSrSmall
namespace Go.Proofs.Ytoikpkgogncdhaa
set_option linter.unusedVariables false
set_option linter.unusedSimpArgs false
open Go.RowKit

theorem fold_next {S : List Sr} {k : Nat} (h : k < S.length) {β : Type} (f : β → Sr → β) (a : β) : (S.take (k + 1)).foldl f a = f ((S.take k).foldl f a) S[k] := by
  rw [List.take_succ_eq_append_getElem h, List.foldl_append]; rfl
theorem step_next {S : List Sr} {k : Nat} (h : k < S.length) : stepS (S.take (k + 1)) = comS (stepS (S.take k)) S[k] := fold_next h comS 1
theorem min_next {S : List Sr} {k : Nat} (h : k < S.length) (a : Int) : minS (S.take (k + 1)) a = min (minS (S.take k) a) S[k].start := fold_next h _ a
theorem last_next {S : List Sr} {k : Nat} (h : k < S.length) : lastS (S.take (k + 1)) = max (lastS (S.take k)) (endS S[k]) := fold_next h _ 0
theorem min_first {x : Sr} {r : List Sr} (h : x.start ≤ 4294967295) : minS (x :: r) x.start = minS (x :: r) 4294967295 := by
  show minS r (min x.start x.start) = minS r (min 4294967295 x.start)
  congr 1
  omega
theorem end_in {s : Sr} (h : Ok s) : 0 ≤ endS s ∧ endS s ≤ 144115192370823168 := by
  have b0 := h.s0; have b1 := h.s1; have b2 := h.p0; have b3 := h.p1; have b4 := h.len
  have m0 : 0 ≤ (s.vals.length : Int) * s.step := Int.mul_nonneg (by omega) (by omega)
  have m1 : (s.vals.length : Int) * s.step ≤ 131072 * 1099511627776 := Int.mul_le_mul b4 b3 (by omega) (by omega)
  unfold endS
  rw [if_pos ((isS_iff s).2 h)]
  omega
theorem okL_all (L : List Sq) : okL L = (L.map Sq.s).all isS := by unfold okL; rw [List.all_map]; rfl
theorem com_le {st : Nat} {s : Sr} (h : st ≤ 16777216) (hp : 1 ≤ s.step) : comS st s ≤ 16777216 := by
  unfold comS; split
  · omega
  · exact comN_le (by omega)
/-- what is known of series that may be joined. -/
theorem join_pre {S : List Sr} (hall : S.all isS = true) (hne : S ≠ []) (hst : stepS S ≠ 0) :
    1 ≤ (stepS S : Int) ∧ (stepS S : Int) ≤ 16777216 ∧ 0 ≤ startJ S ∧ startJ S ≤ 4294967295 ∧ 0 ≤ lastS S - startJ S ∧ lastS S ≤ 144115192370823168 := by
  have hok : ∀ s ∈ S, Ok s := fun s hs => (isS_iff s).1 (List.all_eq_true.1 hall s hs)
  obtain ⟨_, hd, hle⟩ := fold_step S (fun s hs => (hok s hs).p0) 1 (by decide) (by decide) hst
  have hst1 : 1 ≤ (stepS S : Int) := by omega
  have hst2 : (stepS S : Int) ≤ 16777216 := by have : stepS S ≤ 16777216 := hle; omega
  obtain ⟨m0, m1⟩ := minS_le S 4294967295
  have m2 := minS_ge S (fun s hs => (hok s hs).s0) 4294967295 (by decide)
  have r0 := Int.emod_nonneg (minS S 4294967295) (b := (stepS S : Int)) (by omega)
  have r1 : minS S 4294967295 % (stepS S : Int) ≤ minS S 4294967295 := by
    have h := Int.mul_ediv_add_emod (minS S 4294967295) (stepS S : Int)
    have := Int.mul_nonneg (a := (stepS S : Int)) (b := minS S 4294967295 / (stepS S : Int)) (by omega) (Int.ediv_nonneg m2 (by omega))
    omega
  obtain ⟨_, l1⟩ := last_ge S 0
  have hup : ∀ (T : List Sr), (∀ s ∈ T, Ok s) → ∀ t : Int, t ≤ 144115192370823168 → T.foldl (fun t s => max t (endS s)) t ≤ 144115192370823168 := by
    intro T
    induction T with
    | nil => intro _ t h; exact h
    | cons s r ih =>
      intro hT t h
      have := (end_in (hT s (List.mem_cons_self ..))).2
      exact ih (fun u hu => hT u (List.mem_cons_of_mem _ hu)) (max t (endS s)) (by omega)
  refine ⟨hst1, hst2, by unfold startJ; omega, by unfold startJ; omega, ?_, hup S hok 0 (by decide)⟩
  obtain ⟨u, hu⟩ := List.exists_mem_of_ne_nil S hne
  have h1 := m1 u hu; have h2 := hok u hu; have h3 : endS u ≤ lastS S := l1 u hu
  have h4 : u.start ≤ endS u := by
    unfold endS; rw [if_pos ((isS_iff u).2 h2)]
    have := Int.mul_nonneg (a := (u.vals.length : Int)) (b := u.step) (by omega) (by have := h2.p0; omega)
    omega
  unfold startJ
  omega

/-- series and an error's number are handed back. -/
def RetJ (S : List Sr) (w : World) (e : Ending) (w' : World) : Prop :=
  ∃ (A : Option Addr) (M : List Sq) (c : Nat), e = .returned (.tuple #[.slice A M.length c, .int .i64 (errJ S)]) ∧ M.map Sq.s = joinS S ∧ Rl w' A M ∧ Lie w' M ∧ Gr w w'
theorem RetJ.err {S : List Sr} {w w' : World} {n : Int} (h : errJ S = n) (hn : joinS S = []) (g : Gr w w') : RetJ S w (.returned (.tuple #[.slice none 0 0, .int .i64 n])) w' :=
  ⟨none, [], 0, by rw [h]; rfl, by rw [hn]; rfl, Rd.nil _ _ _, fun x hx => absurd hx (by simp), g⟩
theorem join_no {S : List Sr} (h : errJ S ≠ 0) : joinS S = [] := by unfold joinS; rw [if_neg h]

theorem info_ser : (Try.prog.info? 24).map (fun i => (i.zero, i.size, i.bytes)) = some (some (.agg #[.string ⟨#[]⟩, .int .i64 0, .int .i64 0, .slice none 0 0, .int .i64 0]), 5, 64) := by kernel_rfl
theorem scells_one (L : List Sq) : ∀ u ∈ scells L, u.oneCell' = true := by
  intro u hu
  simp only [scells, List.mem_flatMap] at hu
  obtain ⟨v, _, hv⟩ := hu
  simp at hv
  rcases hv with rfl | rfl | rfl | rfl | rfl <;> rfl
theorem Rv.grown {w w' : World} {A : Option Addr} {l : List Vl} {row : Option Nat} (h : Rv w A l) (hg : w.grownBy w' row) (hne : 0 < l.length → ∀ ad, A = some ad → some ad.block ≠ row) : Rv w' A l :=
  ⟨h.1, fun hn => by
    obtain ⟨ad, e, hb, hc⟩ := h.2 hn
    exact ⟨ad, e, Nat.lt_of_lt_of_le hb hg.size, fun j u hu => hg.cell (hc j u hu) (by rw [add_blk]; exact hne hn ad e)⟩⟩
theorem Rv.blk {w : World} {A : Option Addr} {l : List Vl} (h : Rv w A l) (hn : 0 < l.length) {ad : Addr} (hA : A = some ad) : ad.block < w.heap.size := by
  obtain ⟨ad', e, hb, _⟩ := h.2 hn
  rw [hA] at e; injection e with e; subst e; exact hb
theorem new_apart {w : World} {base : Nat} {e : TypeId} {size n : Nat} {v : Value} {xs : List Value} (h : w.ownsRow base e size v n xs) {ad : Addr} (hb : w.heap.size ≤ ad.block) : some ad.block ≠ v.ownBlock := by
  intro h1
  have := (h.lt _ h1.symm).2
  omega
/-- none of the arrays of these series is the array of the row. -/
def Apart (row : Option Nat) (M : List Sq) : Prop := ∀ x ∈ M, 0 < x.s.vals.length → ∀ ad, x.A = some ad → some ad.block ≠ row
end Go.Proofs.Ytoikpkgogncdhaa
