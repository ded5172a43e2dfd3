/- Contracts of fpick.rows, find, row.of, Of: a function's row, and what a series goes by. -/
import Derived.Test.YtbdichmkgcngbaaGreatMgE
import Derived.Outline
namespace Go.Proofs.YtbdichmkgcngbaaGreat
open Go.RowKit
set_option linter.unusedVariables false
set_option linter.unusedSimpArgs false

def rowcells (L : List Fr) : List Value := L.flatMap fun r => [.string r.nm, .int .i64 r.kind, .int .i64 r.by_, .bool r.least]
theorem rowcells_cons (r : Fr) (L : List Fr) : rowcells (r :: L) = .string r.nm :: .int .i64 r.kind :: .int .i64 r.by_ :: .bool r.least :: rowcells L := rfl
theorem rowcells_length (L : List Fr) : (rowcells L).length = L.length * 4 := by
  induction L with
  | nil => rfl
  | cons v l ih => rw [rowcells_cons]; simp only [List.length_cons, ih]; omega
theorem rowcells_at (L : List Fr) : ∀ (k : Nat) (h : k < L.length), (rowcells L)[k * 4]? = some (.string L[k].nm) ∧ (rowcells L)[k * 4 + 1]? = some (.int .i64 L[k].kind) ∧ (rowcells L)[k * 4 + 2]? = some (.int .i64 L[k].by_) ∧ (rowcells L)[k * 4 + 3]? = some (.bool L[k].least) := by
  induction L with
  | nil => intro k h; simp at h
  | cons v l ih =>
    intro k h
    rw [rowcells_cons]
    match k, h with
    | 0, _ => exact ⟨rfl, rfl, rfl, rfl⟩
    | k + 1, h =>
      have hk : k < l.length := by simp only [List.length_cons] at h; omega
      have e : (k + 1) * 4 = k * 4 + 1 + 1 + 1 + 1 := by omega
      have e2 : k * 4 + 1 + 1 + 1 + 1 + 2 = k * 4 + 2 + 1 + 1 + 1 + 1 := by omega
      have e3 : k * 4 + 1 + 1 + 1 + 1 + 3 = k * 4 + 3 + 1 + 1 + 1 + 1 := by omega
      rw [e, e2, e3]
      simp only [List.getElem?_cons_succ, List.getElem_cons_succ]
      exact ih k hk
/-- The slice with the address A reads as the list L of rows. -/
def Rr (w : World) (A : Option Addr) (L : List Fr) : Prop := Rd w 4 A L.length (rowcells L)
theorem Rr.gr {w w' : World} {A : Option Addr} {L : List Fr} (h : Rr w A L) (g : Gr w w') : Rr w' A L := Rd.gr h g
theorem Rr.at {w : World} {A : Option Addr} {L : List Fr} (h : Rr w A L) {k : Nat} (hk : k < L.length) : ∃ ad : Addr, A = some ad ∧ ad.block < w.heap.size ∧ w.cell? (ad.add (k * 4)) = some (.string L[k].nm) ∧ w.cell? ⟨(ad.add (k * 4)).block, (ad.add (k * 4)).off + 1, none⟩ = some (.int .i64 L[k].kind) ∧ w.cell? ⟨(ad.add (k * 4)).block, (ad.add (k * 4)).off + 2, none⟩ = some (.int .i64 L[k].by_) ∧ w.cell? ⟨(ad.add (k * 4)).block, (ad.add (k * 4)).off + 3, none⟩ = some (.bool L[k].least) := by
  obtain ⟨ad, e, hb, hc⟩ := h.2 (by omega)
  obtain ⟨s0, s1, s2, s3⟩ := rowcells_at L k hk
  exact ⟨ad, e, hb, hc _ _ s0, (congrArg w.cell? (add_next ad (k * 4) 0)).symm.trans (hc _ _ s1), (congrArg w.cell? (add_next ad (k * 4) 1)).symm.trans (hc _ _ s2), (congrArg w.cell? (add_next ad (k * 4) 2)).symm.trans (hc _ _ s3)⟩
/-- a new array that holds cells. -/
theorem Rd.new {W : World} {B size n : Nat} (hB : B = W.heap.size) (T : TypeId) (xs : List Value) (hl : xs.length = n * size) : Rd (W.alloc (.cells xs.toArray T)) size (some ⟨B, 0, none⟩) n xs := by
  subst hB
  refine ⟨hl, fun _ => ⟨_, rfl, by simp, fun j u hu => ?_⟩⟩
  have e : (⟨W.heap.size, 0, none⟩ : Addr).add j = ⟨W.heap.size, j, none⟩ := by
    unfold Addr.add; split
    · rename_i h; subst h; rfl
    · rw [Nat.zero_add]
  rw [e]
  exact (cell_of_row _ _ _ _ _ _ (heap_alloc_new W _)).trans (by simpa using hu)

theorem rows_len : rowsL.length = 22 := rfl
def RetRows (w : World) (e : Ending) (w' : World) : Prop := ∃ A, e = .returned (.slice A rowsL.length 22) ∧ Rr w' A rowsL ∧ Gr w w'
set_option maxRecDepth 100000 in
set_option maxHeartbeats 1600000 in
theorem rows_any (w : World) : Calls Tryz.prog 43 #[] w (RetRows w) := by
  go_enter Tryz.func43, Tryz.ntmps43
  go_wp2
  go_ret
  exact ⟨_, rfl, Rd.new rfl _ (rowcells rowsL) (rowcells_length _), Gr.alloc (Gr.refl _) _⟩

/-- find's look at one row. -/
theorem look_any (r : Fr) (B : Nat) (nm : ByteArray) (w : World) (hB : w.cell? ⟨B, 0, none⟩ = some (.string nm)) (hlt : B < w.heap.size) :
    Calls Tryz.prog 45 #[.agg #[.string r.nm, .int .i64 r.kind, .int .i64 r.by_, .bool r.least], .pointer (some ⟨B, 0, none⟩)] w fun e w' => e = .returned (.bool (isNm nm r)) ∧ Gr w w' := by
  go_enter Tryz.func45, Tryz.ntmps45
  go_wp2
  go_ret
  exact ⟨rfl, (by repeat (first | exact Gr.refl _ | refine Gr.alloc ?_ _ | refine Gr.drew ?_ | refine Gr.setCell ?_ (by first | (simp; done) | (simp; omega) | omega) _ | refine Gr.trans ?_ (by assumption)))⟩

def RetIdx (nm : ByteArray) (L : List Fr) (w : World) (e : Ending) (w' : World) : Prop :=
  ∃ k : Int, e = .returned (.int .i64 k) ∧ ((k = -1 ∧ ∀ j (h : j < L.length), isNm nm L[j] = false) ∨ ∃ (i : Nat) (h : i < L.length), k = i ∧ isNm nm L[i] = true ∧ ∀ j (hj : j < L.length), j < i → isNm nm L[j] = false) ∧ Gr w w'
set_option maxRecDepth 100000 in
set_option maxHeartbeats 1600000 in
theorem idxr_any (A : Option Addr) (c : Nat) (L : List Fr) (B : Nat) (nm : ByteArray) (w : World) (hl : L.length ≤ 100) (hr : Rr w A L) (hB : w.cell? ⟨B, 0, none⟩ = some (.string nm)) (hlt : B < w.heap.size) :
    Calls Tryz.prog 44 #[.slice A L.length c, .func (.func 45) #[] #[.pointer (some ⟨B, 0, none⟩)]] w (RetIdx nm L w) := by
  have hl' : (L.length : Int) ≤ 100 := by omega
  have HB := Lib.hid hB
  clear hB hl
  go_enter Tryz.func44, Tryz.ntmps44
  go_wp2
  go_loopw [5, 8] (fun _ i wr => ∃ k : Nat, k ≤ L.length ∧ i = .int .i64 k ∧ Gr w wr ∧ Hid (∀ j (h : j < L.length), j < k → isNm nm L[j] = false)) (fun _ i _ => L.length - (intOf i).toNat)
  case atStart => exact ⟨0, Nat.zero_le _, rfl, Gr.refl _, Lib.hid (fun j _ h => absurd h (Nat.not_lt_zero _))⟩
  case round =>
    obtain ⟨k, hk, rfl, hgr, ha⟩ := hrel
    by_cases hlt2 : k < L.length
    · obtain ⟨ad, rfl, hb, hx0, hx1, hx2, hx3⟩ := (hr.gr hgr).at hlt2
      have Q := fun w hB hlt => look_any L[k] B nm w hB hlt
      cases hx : isNm nm L[k]
      · have Ht : Hid (∀ j (h : j < L.length), j < k + 1 → isNm nm L[j] = false) := Lib.hid (fun j h hj => by
          by_cases e : j = k
          · subst e; exact hx
          · exact ha.out j h (by omega))
        simp only [hx] at Q
        clear hx
        go_wp2_with fail
        refine (Q _ ((hgr.cell (p := ⟨B, 0, none⟩) hlt).trans HB.out) (Nat.lt_of_lt_of_le hlt hgr.size)).mono ?_; rintro e w1 ⟨rfl, hg⟩
        go_wp2
        go_roundw
        case rel => exact ⟨k + 1, by omega, by go_num, (by repeat (first | exact Gr.refl _ | refine Gr.alloc ?_ _ | refine Gr.drew ?_ | refine Gr.setCell ?_ (by first | (simp; done) | (simp; omega) | omega) _ | refine Gr.trans ?_ (by assumption))), Ht⟩
        case measure => simp [intOf]; omega
      · have Ht : Hid (isNm nm L[k] = true) := Lib.hid hx
        simp only [hx] at Q
        clear hx
        go_wp2_with fail
        refine (Q _ ((hgr.cell (p := ⟨B, 0, none⟩) hlt).trans HB.out) (Nat.lt_of_lt_of_le hlt hgr.size)).mono ?_; rintro e w1 ⟨rfl, hg⟩
        go_wp2
        go_ret
        exact ⟨_, rfl, .inr ⟨k, hlt2, rfl, Ht.out, ha.out⟩, (by repeat (first | exact Gr.refl _ | refine Gr.alloc ?_ _ | refine Gr.drew ?_ | refine Gr.setCell ?_ (by first | (simp; done) | (simp; omega) | omega) _ | refine Gr.trans ?_ (by assumption)))⟩
    · have hkk : k = L.length := by omega
      subst hkk
      go_wp2
      go_ret
      exact ⟨_, rfl, .inl ⟨rfl, fun j h => ha.out j h h⟩, hgr⟩

theorem find_none {nm : ByteArray} {L : List Fr} (h : ∀ j (h : j < L.length), isNm nm L[j] = false) : L.find? (isNm nm) = none := by
  rw [List.find?_eq_none]
  intro x hx
  obtain ⟨j, hj, rfl⟩ := List.getElem_of_mem hx
  rw [h j hj]; decide
theorem find_some {nm : ByteArray} {L : List Fr} {i : Nat} (hi : i < L.length) (h : isNm nm L[i] = true) (hb : ∀ j (hj : j < L.length), j < i → isNm nm L[j] = false) : L.find? (isNm nm) = some L[i] := by
  rw [List.find?_eq_some_iff_getElem]
  refine ⟨h, i, hi, rfl, fun j hj => ?_⟩
  rw [hb j (Nat.lt_trans hj hi) hj]; rfl

def aggFr (r : Fr) : Value := .agg #[.string r.nm, .int .i64 r.kind, .int .i64 r.by_, .bool r.least]
def RetFind (nm : ByteArray) (w : World) (e : Ending) (w' : World) : Prop := e = .returned (.tuple #[aggFr (rowF nm), .bool (findF nm).isSome]) ∧ Gr w w'
set_option maxRecDepth 100000 in
set_option maxHeartbeats 3200000 in
theorem find_any (nm : ByteArray) (w : World) : Calls Tryz.prog 25 #[.string nm] w (RetFind nm w) := by
  go_enter Tryz.func25, Tryz.ntmps25
  go_wp2_with fail
  refine (rows_any _).mono ?_; rintro e w1 ⟨A1, rfl, hrr, hg1⟩
  have hgw : Gr w w1 := (by repeat (first | exact Gr.refl _ | refine Gr.alloc ?_ _ | refine Gr.drew ?_ | refine Gr.setCell ?_ (by first | (simp; done) | (simp; omega) | omega) _ | refine Gr.trans ?_ (by assumption)))
  have z1 := hg1.size
  simp at z1
  have z0 : w.heap.size < w1.heap.size := by omega
  have z2 : w.heap.size + 1 < w1.heap.size := by omega
  have q0 : w1.cell? ⟨w.heap.size, 0, none⟩ = some (.string nm) := (hg1.cell (p := ⟨w.heap.size, 0, none⟩) (by simp; omega)).trans (by go_simp)
  have p0 : w1.cell? ⟨w.heap.size + 1, 0, none⟩ = some (.string ⟨#[]⟩) := (hg1.cell (p := ⟨w.heap.size + 1, 0, none⟩) (by simp)).trans (by go_simp)
  have p1 : w1.cell? ⟨w.heap.size + 1, 1, none⟩ = some (.int .i64 0) := (hg1.cell (p := ⟨w.heap.size + 1, 1, none⟩) (by simp)).trans (by go_simp)
  have p2 : w1.cell? ⟨w.heap.size + 1, 2, none⟩ = some (.int .i64 0) := (hg1.cell (p := ⟨w.heap.size + 1, 2, none⟩) (by simp)).trans (by go_simp)
  have p3 : w1.cell? ⟨w.heap.size + 1, 3, none⟩ = some (.bool false) := (hg1.cell (p := ⟨w.heap.size + 1, 3, none⟩) (by simp)).trans (by go_simp)
  have g0 : w1.frozen? ⟨w.heap.size + 1, 0, none⟩ = false := (hg1.frozen (p := ⟨w.heap.size + 1, 0, none⟩) (by simp)).trans (by go_simp)
  have g1 : w1.frozen? ⟨w.heap.size + 1, 1, none⟩ = false := (hg1.frozen (p := ⟨w.heap.size + 1, 1, none⟩) (by simp)).trans (by go_simp)
  have g2 : w1.frozen? ⟨w.heap.size + 1, 2, none⟩ = false := (hg1.frozen (p := ⟨w.heap.size + 1, 2, none⟩) (by simp)).trans (by go_simp)
  have g3 : w1.frozen? ⟨w.heap.size + 1, 3, none⟩ = false := (hg1.frozen (p := ⟨w.heap.size + 1, 3, none⟩) (by simp)).trans (by go_simp)
  clear hg1 z1
  go_wp2_with fail
  refine (idxr_any A1 22 rowsL w.heap.size nm w1 (by decide) hrr q0 z0).mono ?_; rintro e w2 ⟨k, rfl, hk, hg2⟩
  obtain ⟨hc, hf⟩ := hg2.cells
  have z1 := hg2.size
  have hrr2 := hrr.gr hg2
  have z3 : w.heap.size + 1 < w2.heap.size := by omega
  replace p0 := (hg2.cell (p := ⟨w.heap.size + 1, 0, none⟩) z2).trans p0
  replace p1 := (hg2.cell (p := ⟨w.heap.size + 1, 1, none⟩) z2).trans p1
  replace p2 := (hg2.cell (p := ⟨w.heap.size + 1, 2, none⟩) z2).trans p2
  replace p3 := (hg2.cell (p := ⟨w.heap.size + 1, 3, none⟩) z2).trans p3
  replace g0 := (hg2.frozen (p := ⟨w.heap.size + 1, 0, none⟩) z2).trans g0
  replace g1 := (hg2.frozen (p := ⟨w.heap.size + 1, 1, none⟩) z2).trans g1
  replace g2 := (hg2.frozen (p := ⟨w.heap.size + 1, 2, none⟩) z2).trans g2
  replace g3 := (hg2.frozen (p := ⟨w.heap.size + 1, 3, none⟩) z2).trans g3
  have hgw2 := Gr.trans hgw hg2
  clear hc hf hrr hg2 hgw q0 z0 z1 z2
  rcases hk with ⟨rfl, hn⟩ | ⟨i, hi, rfl, hy, hb⟩
  · have E : Hid (rowF nm = noFr ∧ (findF nm).isSome = false) := Lib.hid ⟨by unfold rowF findF; rw [find_none hn]; rfl, by unfold findF; rw [find_none hn]; rfl⟩
    clear hn hrr2
    go_wp2
    exact bodyPost_ret (v := .tuple #[.agg #[.string ⟨#[]⟩, .int .i64 0, .int .i64 0, .bool false], .bool false]) (by simp [results, Tryz.results25, go_sem, *]) rfl ⟨by rw [E.out.1, E.out.2]; rfl, (by repeat (first | exact Gr.refl _ | refine Gr.alloc ?_ _ | refine Gr.drew ?_ | refine Gr.setCell ?_ (by first | (simp; done) | (simp; omega) | omega) _ | refine Gr.trans ?_ (by assumption)))⟩
  · have E : Hid (rowF nm = rowsL[i] ∧ (findF nm).isSome = true) := Lib.hid ⟨by unfold rowF findF; rw [find_some hi hy hb]; rfl, by unfold findF; rw [find_some hi hy hb]; rfl⟩
    obtain ⟨ad, rfl, hbk, hx0, hx1, hx2, hx3⟩ := hrr2.at hi
    generalize rowsL[i] = r at hx0 hx1 hx2 hx3 E
    clear hy hb hrr2
    generalize rowsL.length = n at hi ⊢
    go_wp2
    exact bodyPost_ret (v := .tuple #[.agg #[.string r.nm, .int .i64 r.kind, .int .i64 r.by_, .bool r.least], .bool true]) (by simp [results, Tryz.results25, go_sem, *]) rfl ⟨by rw [E.out.1, E.out.2]; rfl, (by repeat (first | exact Gr.refl _ | refine Gr.alloc ?_ _ | refine Gr.drew ?_ | refine Gr.setCell ?_ (by first | (simp; done) | (simp; omega) | omega) _ | refine Gr.trans ?_ (by assumption)))⟩
end Go.Proofs.YtbdichmkgcngbaaGreat
