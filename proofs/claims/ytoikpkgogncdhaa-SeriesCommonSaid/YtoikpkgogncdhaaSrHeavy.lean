/- Slices of series that are read; the contract of heavy: whether series are more than is looked at. -/
import Derived.Test.YtoikpkgogncdhaaSrBase
import Derived.Test.YtoikpkgogncdhaaFxRead
import Derived.Lib.Hide
namespace Go.Proofs.Ytoikpkgogncdhaa
set_option linter.unusedVariables false
set_option linter.unusedSimpArgs false
open Go.RowKit

/-- a series as it lies: where its values lie. -/
structure Sq where
  s : Sr
  A : Option Addr
  c : Nat
def scells (L : List Sq) : List Value := L.flatMap fun x => [.string x.s.name, .int .i64 x.s.start, .int .i64 x.s.step, .slice x.A x.s.vals.length x.c, .int .i64 x.s.cons]
theorem scells_cons (x : Sq) (L : List Sq) : scells (x :: L) = .string x.s.name :: .int .i64 x.s.start :: .int .i64 x.s.step :: .slice x.A x.s.vals.length x.c :: .int .i64 x.s.cons :: scells L := rfl
theorem scells_append (L M : List Sq) : scells (L ++ M) = scells L ++ scells M := by simp [scells]
theorem scells_length (L : List Sq) : (scells L).length = L.length * 5 := by
  induction L with
  | nil => rfl
  | cons v l ih => rw [scells_cons]; simp only [List.length_cons, ih]; omega
theorem scells_at (L : List Sq) : ∀ (k : Nat) (h : k < L.length), (scells L)[k * 5]? = some (.string L[k].s.name) ∧ (scells L)[k * 5 + 1]? = some (.int .i64 L[k].s.start) ∧ (scells L)[k * 5 + 2]? = some (.int .i64 L[k].s.step) ∧ (scells L)[k * 5 + 3]? = some (.slice L[k].A L[k].s.vals.length L[k].c) ∧ (scells L)[k * 5 + 4]? = some (.int .i64 L[k].s.cons) := by
  induction L with
  | nil => intro k h; simp at h
  | cons v l ih =>
    intro k h
    rw [scells_cons]
    match k, h with
    | 0, _ => exact ⟨rfl, rfl, rfl, rfl, rfl⟩
    | k + 1, h =>
      have hk : k < l.length := by simp only [List.length_cons] at h; omega
      have e : (k + 1) * 5 = k * 5 + 1 + 1 + 1 + 1 + 1 := by omega
      have e1 : k * 5 + 1 + 1 + 1 + 1 + 1 + 1 = k * 5 + 1 + 1 + 1 + 1 + 1 + 1 := rfl
      have e2 : k * 5 + 1 + 1 + 1 + 1 + 1 + 2 = k * 5 + 2 + 1 + 1 + 1 + 1 + 1 := by omega
      have e3 : k * 5 + 1 + 1 + 1 + 1 + 1 + 3 = k * 5 + 3 + 1 + 1 + 1 + 1 + 1 := by omega
      have e4 : k * 5 + 1 + 1 + 1 + 1 + 1 + 4 = k * 5 + 4 + 1 + 1 + 1 + 1 + 1 := by omega
      rw [e, e2, e3, e4]
      simp only [List.getElem?_cons_succ, List.getElem_cons_succ]
      exact ih k hk
/-- The slice with the address A reads as the list L of series. -/
def Rl (w : World) (A : Option Addr) (L : List Sq) : Prop := Rd w 5 A L.length (scells L)
theorem Rl.gr {w w' : World} {A : Option Addr} {L : List Sq} (h : Rl w A L) (g : Gr w w') : Rl w' A L := Rd.gr h g
theorem Rl.at {w : World} {A : Option Addr} {L : List Sq} (h : Rl w A L) {k : Nat} (hk : k < L.length) : ∃ ad : Addr, A = some ad ∧ ad.block < w.heap.size ∧ w.cell? (ad.add (k * 5)) = some (.string L[k].s.name) ∧ w.cell? ⟨(ad.add (k * 5)).block, (ad.add (k * 5)).off + 1, none⟩ = some (.int .i64 L[k].s.start) ∧ w.cell? ⟨(ad.add (k * 5)).block, (ad.add (k * 5)).off + 2, none⟩ = some (.int .i64 L[k].s.step) ∧ w.cell? ⟨(ad.add (k * 5)).block, (ad.add (k * 5)).off + 3, none⟩ = some (.slice L[k].A L[k].s.vals.length L[k].c) ∧ w.cell? ⟨(ad.add (k * 5)).block, (ad.add (k * 5)).off + 4, none⟩ = some (.int .i64 L[k].s.cons) := by
  obtain ⟨ad, e, hb, hc⟩ := h.2 (by omega)
  obtain ⟨s0, s1, s2, s3, s4⟩ := scells_at L k hk
  exact ⟨ad, e, hb, hc _ _ s0, (congrArg w.cell? (add_next ad (k * 5) 0)).symm.trans (hc _ _ s1), (congrArg w.cell? (add_next ad (k * 5) 1)).symm.trans (hc _ _ s2), (congrArg w.cell? (add_next ad (k * 5) 2)).symm.trans (hc _ _ s3), (congrArg w.cell? (add_next ad (k * 5) 3)).symm.trans (hc _ _ s4)⟩
/-- a new array that holds series. -/
theorem Rl.new {W : World} {B : Nat} (hB : B = W.heap.size) (T : TypeId) (L : List Sq) : Rl (W.alloc (.cells (scells L).toArray T)) (some ⟨B, 0, none⟩) L := by
  subst hB
  refine ⟨scells_length L, fun _ => ⟨_, rfl, by simp, fun j u hu => ?_⟩⟩
  have e : (⟨W.heap.size, 0, none⟩ : Addr).add j = ⟨W.heap.size, j, none⟩ := by
    unfold Addr.add; split
    · rename_i h; subst h; rfl
    · rw [Nat.zero_add]
  rw [e]
  exact (cell_of_row _ _ _ _ _ _ (heap_alloc_new W _)).trans (by simpa using hu)
/-- not more than is looked at. -/
def Light (L : List Sq) : Prop := L.length ≤ 20 ∧ ∀ x ∈ L, (x.s.vals.length : Int) ≤ 120 ∧ (x.s.name.size : Int) ≤ 300
theorem light_at {L : List Sq} {k : Nat} (hk : k < L.length) (h : ∀ j (hj : j < L.length), j < k → (L[j].s.vals.length : Int) ≤ 120 ∧ (L[j].s.name.size : Int) ≤ 300) (h1 : (L[k].s.vals.length : Int) ≤ 120) (h2 : (L[k].s.name.size : Int) ≤ 300) :
    ∀ j (hj : j < L.length), j < k + 1 → (L[j].s.vals.length : Int) ≤ 120 ∧ (L[j].s.name.size : Int) ≤ 300 := by
  intro j hj hjk
  by_cases e : j = k
  · subst e; exact ⟨h1, h2⟩
  · exact h j hj (by omega)

/-- heavy's answer. -/
def RetH (L : List Sq) (w : World) (e : Ending) (w' : World) : Prop := (∃ b : Bool, e = .returned (.bool b) ∧ (b = false → Light L)) ∧ Gr w w'
set_option maxRecDepth 100000 in
set_option maxHeartbeats 3200000 in
theorem heavy_any (A : Option Addr) (c : Nat) (L : List Sq) (w : World) (hr : Rl w A L) :
    Calls Try.prog 11 #[.slice A L.length c] w (RetH L w) := by
  by_cases h20 : (20 : Int) < (L.length : Int)
  · go_enter Try.func11, Try.ntmps11
    go_wp2
    go_ret
    exact ⟨⟨_, rfl, fun h => by cases h⟩, Gr.refl _⟩
  go_enter Try.func11, Try.ntmps11
  go_wp2
  go_loopw [3, 4] (fun n i wr => ∃ (k : Nat) (S : Int), k ≤ L.length ∧ i = .int .i64 k ∧ n = .int .i64 S ∧ 0 ≤ S ∧ S ≤ 120 * k ∧ Gr w wr ∧ Hid (∀ j (hj : j < L.length), j < k → (L[j].s.vals.length : Int) ≤ 120 ∧ (L[j].s.name.size : Int) ≤ 300)) (fun _ i _ => L.length - (intOf i).toNat)
  case atStart => exact ⟨0, 0, Nat.zero_le _, rfl, rfl, by omega, by omega, Gr.refl _, Lib.hid (fun j _ h => absurd h (Nat.not_lt_zero _))⟩
  case round =>
    obtain ⟨k, S, hk, rfl, rfl, S0, S1, hgr, hall⟩ := hrel
    by_cases hlt : k < L.length
    · obtain ⟨ad, rfl, hb, c0, c1, c2, c3, c4⟩ := (hr.gr hgr).at hlt
      by_cases h120 : (L[k].s.vals.length : Int) ≤ 120
      · by_cases h300 : (L[k].s.name.size : Int) ≤ 300
        · have Ht := Lib.hid (light_at hlt hall.out h120 h300)
          go_wp2
          go_roundw
          case rel => exact ⟨k + 1, _, by omega, by go_num, rfl, by omega, by omega, hgr, Ht⟩
          case measure => simp [intOf]; omega
        · go_wp2
          go_ret
          exact ⟨⟨_, rfl, fun h => by cases h⟩, hgr⟩
      · go_wp2
        go_ret
        exact ⟨⟨_, rfl, fun h => by cases h⟩, hgr⟩
    · have hkk : k = L.length := by omega
      subst hkk
      have HL : Hid (Light L) := Lib.hid ⟨by omega, fun x hx => by obtain ⟨j, hj, rfl⟩ := List.getElem_of_mem hx; exact hall.out j hj hj⟩
      clear hall
      by_cases h400 : (400 : Int) < S
      · go_wp2
        go_ret
        exact ⟨⟨_, rfl, fun _ => HL.out⟩, hgr⟩
      · go_wp2
        go_ret
        exact ⟨⟨_, rfl, fun _ => HL.out⟩, hgr⟩
end Go.Proofs.Ytoikpkgogncdhaa
