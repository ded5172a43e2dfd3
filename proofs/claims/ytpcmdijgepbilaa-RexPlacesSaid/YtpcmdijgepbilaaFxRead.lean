/- Slices that are read: a slice value that reads as a list of cells, nil let in ('Rd'); lists of values of api.Val ('Rv'). Kept by 'Gr'. -/
import Derived.Test.YtpcmdijgepbilaaFxBase
namespace Go.Proofs.Ytpcmdijgepbilaa
open Go.RowKit

theorem add_blk (a : Addr) (n : Nat) : (a.add n).block = a.block := by unfold Addr.add; split <;> rfl
theorem add_two (a : Addr) (i j : Nat) : (a.add i).add j = a.add (i + j) := by
  unfold Addr.add
  rcases Nat.eq_zero_or_pos i with hi | hi <;> rcases Nat.eq_zero_or_pos j with hj | hj
  · simp [hi, hj]
  · simp [hi, Nat.ne_of_gt hj]
  · simp [hj]
  · simp [Nat.ne_of_gt hi, Nat.ne_of_gt hj, Nat.add_assoc]

theorem add_next (a : Addr) (i j : Nat) : a.add (i + (j + 1)) = ⟨(a.add i).block, (a.add i).off + (j + 1), none⟩ := by
  rw [← add_two]; rfl

/-- The slice '.slice A n c' holds the cells xs (n elements of so many cells), all of them in w. -/
def Rd (w : World) (size : Nat) (A : Option Addr) (n : Nat) (xs : List Value) : Prop :=
  xs.length = n * size ∧ (0 < n → ∃ ad, A = some ad ∧ ad.block < w.heap.size ∧ ∀ j u, xs[j]? = some u → w.cell? (ad.add j) = some u)
theorem Rd.nil (w : World) (size : Nat) (A : Option Addr) : Rd w size A 0 [] := ⟨by simp, fun h => absurd h (by omega)⟩
theorem Gr.cell {w w' : World} (h : Gr w w') {p : Addr} (hp : p.block < w.heap.size) : w'.cell? p = w.cell? p := Below.cell h hp
theorem Gr.frozen {w w' : World} (h : Gr w w') {p : Addr} (hp : p.block < w.heap.size) : w'.frozen? p = w.frozen? p := Below.frozen h hp
theorem Rd.gr {w w' : World} {size n : Nat} {A : Option Addr} {xs : List Value} (h : Rd w size A n xs) (g : Gr w w') : Rd w' size A n xs :=
  ⟨h.1, fun hn => by
    obtain ⟨ad, e, hb, hc⟩ := h.2 hn
    exact ⟨ad, e, Nat.lt_of_lt_of_le hb g.size, fun j u hu => (g.cell (by rw [add_blk]; exact hb)).trans (hc j u hu)⟩⟩

/-- the cells of values. -/
def vcells (l : List Vl) : List Value := l.flatMap fun v => [.bool v.ok, .int .i64 v.n]
theorem vcells_cons (v : Vl) (l : List Vl) : vcells (v :: l) = .bool v.ok :: .int .i64 v.n :: vcells l := rfl
theorem vcells_append (l m : List Vl) : vcells (l ++ m) = vcells l ++ vcells m := by simp [vcells]
theorem vcells_length (l : List Vl) : (vcells l).length = l.length * 2 := by
  induction l with
  | nil => rfl
  | cons v l ih => rw [vcells_cons]; simp only [List.length_cons, ih]; omega
theorem vcells_at (l : List Vl) : ∀ (k : Nat) (h : k < l.length), (vcells l)[k * 2]? = some (.bool l[k].ok) ∧ (vcells l)[k * 2 + 1]? = some (.int .i64 l[k].n) := by
  induction l with
  | nil => intro k h; simp at h
  | cons v l ih =>
    intro k h
    rw [vcells_cons]
    match k, h with
    | 0, _ => exact ⟨rfl, rfl⟩
    | k + 1, h =>
      have hk : k < l.length := by simp only [List.length_cons] at h; omega
      have e : (k + 1) * 2 = k * 2 + 1 + 1 := by omega
      rw [e]
      simp only [List.getElem?_cons_succ, List.getElem_cons_succ]
      exact ih k hk
/-- The slice with the address A reads as the list l of values. -/
def Rv (w : World) (A : Option Addr) (l : List Vl) : Prop := Rd w 2 A l.length (vcells l)
theorem Rv.nil (w : World) (A : Option Addr) : Rv w A [] := Rd.nil w 2 A
theorem Rv.gr {w w' : World} {A : Option Addr} {l : List Vl} (h : Rv w A l) (g : Gr w w') : Rv w' A l := Rd.gr h g
theorem Rv.at {w : World} {A : Option Addr} {l : List Vl} (h : Rv w A l) {k : Nat} (hk : k < l.length) :
    ∃ ad : Addr, A = some ad ∧ ad.block < w.heap.size ∧ w.cell? (ad.add (k * 2)) = some (.bool l[k].ok) ∧ w.cell? ⟨(ad.add (k * 2)).block, (ad.add (k * 2)).off + 1, none⟩ = some (.int .i64 l[k].n) := by
  obtain ⟨ad, e, hb, hc⟩ := h.2 (by omega)
  exact ⟨ad, e, hb, hc _ _ (vcells_at l k hk).1, (congrArg w.cell? (add_next ad (k * 2) 0)).symm.trans (hc _ _ (vcells_at l k hk).2)⟩

end Go.Proofs.Ytpcmdijgepbilaa
