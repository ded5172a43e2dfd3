/- How reading an expression goes on: what is left never grows; how many groups and how deep, no more than what was read. No program in sight. -/
import Derived.Test.YtpcmdijgepbilaaRxSpec
namespace Go.Proofs.Ytpcmdijgepbilaa
set_option linter.unusedVariables false
set_option linter.unusedSimpArgs false
open Go.RowKit

structure Gd (b : Nat) (s t : Rs) : Prop where
  r : t.rest.length ≤ s.rest.length
  g : t.groups + t.rest.length ≤ s.groups + s.rest.length + b
  d : t.deep + t.rest.length ≤ s.deep + s.rest.length + b
  m : s.bad = true → t.bad = true
  e : t.bad = false → t.deep = s.deep
theorem Gd.refl (s : Rs) : Gd 0 s s := ⟨Nat.le_refl _, Nat.le_refl _, Nat.le_refl _, id, fun _ => rfl⟩
theorem Gd.trans {s t u : Rs} (h : Gd 0 s t) (k : Gd 0 t u) : Gd 0 s u := by
  obtain ⟨h1, h2, h3, h4, h5⟩ := h
  obtain ⟨k1, k2, k3, k4, k5⟩ := k
  refine ⟨by omega, by omega, by omega, fun x => k4 (h4 x), fun x => ?_⟩
  have hb : t.bad = false := by cases e : t.bad with | false => rfl | true => rw [k4 e] at x; cases x
  rw [k5 x, h5 hb]
theorem Gd.fail {b : Nat} {s t : Rs} (h : Gd b s t) : Gd b s (failS t).2 := ⟨h.r, h.g, h.d, fun _ => rfl, fun x => by cases x⟩
theorem Gd.rest {s : Rs} {r : List UInt8} (h : r.length ≤ s.rest.length) : Gd 0 s { s with rest := r } := ⟨h, by show s.groups + r.length ≤ _; omega, by show s.deep + r.length ≤ _; omega, id, fun _ => rfl⟩
theorem escS_len (r : List UInt8) : (escS r).2.length ≤ r.length := by
  cases r with
  | nil => exact Nat.le_refl _
  | cons c r => unfold escS; simp only; generalize namedB c.toNat = o; cases o <;> simp
theorem sideS_len (r : List UInt8) : (sideS r).2.length ≤ r.length := by
  cases r with
  | nil => exact Nat.le_refl _
  | cons c r =>
    unfold sideS
    cases hb : (c.toNat == 92)
    · simp [hb]
    · cases r with
      | nil => simp [hb]
      | cons d q =>
        simp only [hb, cond_true]
        generalize escS (d :: q) = e
        obtain ⟨_ | g, u⟩ := e <;> (simp; try omega)
theorem clsS_len (k : Nat) : ∀ (f : Bool) (a : Bs) (r : List UInt8), (clsS k f a r).2.length ≤ r.length := by
  induction k with
  | zero => intro f a r; exact Nat.le_refl _
  | succ k ih =>
    intro f a r
    unfold clsS
    cases hb : (f || !headIs 93 r)
    · simp
    · simp only [cond_true]
      have h1 := sideS_len r
      generalize sideS r = e at h1 ⊢
      obtain ⟨_ | ⟨g, x, y⟩, u⟩ := e
      · exact h1
      · simp only at h1 ⊢
        cases hc : (!y && rangesS u)
        · simp only [cond_false]; exact Nat.le_trans (ih _ _ _) h1
        · simp only [cond_true]
          have h2 := sideS_len (u.drop 1)
          have h3 : (u.drop 1).length ≤ u.length := by simp
          generalize sideS (u.drop 1) = e2 at h2 ⊢
          obtain ⟨_ | ⟨g2, x2, y2⟩, u2⟩ := e2
          · simp only at h2 ⊢; omega
          · simp only at h2 ⊢
            cases hd : Nat.blt x2 x
            · simp only [cond_false]; have := ih false (orB a (orB g (runB x x2))) u2; omega
            · simp only [cond_true]; omega
theorem classS_len (r : List UInt8) : (classS r).2.length ≤ r.length := by
  unfold classS
  cases hb : headIs 94 r
  · exact clsS_len _ _ _ _
  · simp only [cond_true]
    have h1 := clsS_len r.length true noB (r.drop 1)
    have h3 : (r.drop 1).length ≤ r.length := by simp
    generalize clsS r.length true noB (r.drop 1) = e at h1 ⊢
    obtain ⟨_ | g, u⟩ := e <;> (simp only at h1 ⊢; omega)
theorem setS_gd {s : Rs} {x : Option Bs × List UInt8} (h : x.2.length ≤ s.rest.length) : Gd 0 s (setS s x).2 := by
  obtain ⟨_ | f, q⟩ := x
  · exact (Gd.rest h).fail
  · exact Gd.rest h
theorem openS_gd (s : Rs) : (openS s).2.rest.length ≤ s.rest.length ∧ (openS s).2.groups + (openS s).2.rest.length ≤ s.groups + s.rest.length + 1 ∧ (openS s).2.deep = s.deep ∧ (openS s).2.bad = s.bad := by
  unfold openS
  cases (headIs 63 s.rest && headIs 58 (s.rest.drop 1))
  · simp; omega
  · simp; omega
variable {W : Rs → Pc × Rs} (hW : ∀ s, Gd 0 s (W s).2)
include hW
theorem groupS_gd (s : Rs) : Gd 1 s (groupS W s).2 := by
  unfold groupS
  cases hb : Nat.ble 64 s.deep
  · simp only [cond_false]
    obtain ⟨o1, o2, o3, o4⟩ := openS_gd { s with deep := s.deep + 1 }
    obtain ⟨h1, h2, h3, h4, h5⟩ := hW (openS { s with deep := s.deep + 1 }).2
    simp only at o1 o2 o3 o4
    generalize (openS { s with deep := s.deep + 1 }).2 = o at *
    generalize W o = t at *
    cases hc : (t.2.bad || !headIs 41 t.2.rest)
    · simp only [cond_false]
      have htb : t.2.bad = false := by cases e : t.2.bad with | false => rfl | true => rw [e] at hc; cases hc
      have hd := h5 htb
      refine ⟨?_, ?_, ?_, ?_, ?_⟩
      · simp; omega
      · simp; omega
      · simp; omega
      · intro x; exact h4 (o4.trans x)
      · intro _; simp; omega
    · simp only [cond_true]
      refine ⟨?_, ?_, ?_, fun _ => rfl, fun x => by cases x⟩
      · simp [failS]; omega
      · simp [failS]; omega
      · simp [failS]; omega
  · simp only [cond_true]
    refine ⟨?_, ?_, ?_, fun _ => rfl, fun x => by cases x⟩ <;> (simp [failS]; try omega)
theorem atomS_gd {s : Rs} {c : UInt8} {r : List UInt8} (h : s.rest = c :: r) : Gd 0 s (atomS W s).2 ∧ (atomS W s).2.rest.length ≤ r.length := by
  have hl : s.rest.length = r.length + 1 := by rw [h]; rfl
  have h0 : Gd 0 s { s with rest := r } := Gd.rest (by omega)
  have hx : ∀ x : Option Bs × List UInt8, x.2.length ≤ r.length → Gd 0 s (setS s x).2 ∧ (setS s x).2.rest.length ≤ r.length := fun x hx => ⟨setS_gd (by omega), by
    obtain ⟨_ | f, q⟩ := x <;> exact hx⟩
  unfold atomS
  rw [h]
  simp only
  cases (c.toNat == 40)
  rotate_left
  · simp only [cond_true]
    obtain ⟨k1, k2, k3, k4, k5⟩ := groupS_gd hW { s with rest := r }
    simp only at k1 k2 k3 k4 k5
    exact ⟨⟨by omega, by omega, by omega, k4, k5⟩, k1⟩
  cases (c.toNat == 94)
  rotate_left
  · exact ⟨h0, Nat.le_refl _⟩
  cases (c.toNat == 36)
  rotate_left
  · exact ⟨h0, Nat.le_refl _⟩
  cases (c.toNat == 46)
  rotate_left
  · exact ⟨h0, Nat.le_refl _⟩
  cases (c.toNat == 91)
  rotate_left
  · exact hx _ (classS_len r)
  cases (c.toNat == 92)
  rotate_left
  · exact hx _ (escS_len r)
  cases stopC c.toNat
  · exact ⟨h0, Nat.le_refl _⟩
  · exact ⟨h0.fail, Nat.le_refl _⟩
theorem pieceS_gd {s : Rs} {c : UInt8} {r : List UInt8} (h : s.rest = c :: r) : Gd 0 s (pieceS W s).2 ∧ (pieceS W s).2.rest.length ≤ r.length := by
  have h0 := atomS_gd hW h
  unfold pieceS
  generalize atomS W s = t at h0 ⊢
  simp only
  cases hb : t.2.bad
  · simp only [cond_false]
    match e : t.2.rest with
    | [] => exact h0
    | d :: q =>
      simp only
      cases repC d.toNat
      · exact h0
      · simp only [cond_true]
        have h1 : (bif headIs 63 q then q.drop 1 else q).length ≤ q.length := by cases headIs 63 q <;> simp
        have h2 : q.length + 1 = t.2.rest.length := by rw [e]; rfl
        have h9 := Gd.rest (s := t.2) (r := bif headIs 63 q then q.drop 1 else q) (by omega)
        rw [hb] at h9
        exact ⟨h0.1.trans h9, by show (bif headIs 63 q then q.drop 1 else q).length ≤ _; omega⟩
  · exact h0
theorem rowS_gd (k : Nat) : ∀ s : Rs, Gd 0 s (rowS W k s).2 := by
  induction k with
  | zero => intro s; exact Gd.refl s
  | succ k ih =>
    intro s
    unfold rowS
    cases hb : (s.bad || endR s.rest)
    · simp only [cond_false]
      obtain ⟨c, r, hr⟩ : ∃ c r, s.rest = c :: r := by
        match e : s.rest with
        | [] => rw [e] at hb; simp [endR] at hb
        | c :: r => exact ⟨c, r, rfl⟩
      exact (pieceS_gd hW hr).1.trans (ih _)
    · exact Gd.refl s
theorem altS_gd (k : Nat) : ∀ s : Rs, Gd 0 s (altS W k s).2 := by
  induction k with
  | zero => intro s; exact Gd.refl s
  | succ k ih =>
    intro s
    unfold altS
    have h0 : Gd 0 s (rowP W s).2 := rowS_gd hW _ s
    generalize rowP W s = t at h0 ⊢
    simp only
    cases hb : (!t.2.bad && headIs 124 t.2.rest)
    · exact h0
    · simp only [cond_true]
      exact (h0.trans (Gd.rest (r := t.2.rest.drop 1) (by simp))).trans (ih _)
omit hW in
theorem waysS_gd (n : Nat) : ∀ s : Rs, Gd 0 s (waysS n s).2 := by
  induction n with
  | zero => intro s; exact (Gd.refl s).fail
  | succ n ih => intro s; exact altS_gd ih _ s
/-- how much is left to count. -/
def Bd (q : Rs) : Prop := q.groups + q.rest.length ≤ 5000 ∧ q.deep + q.rest.length ≤ 5000
omit hW in
theorem Gd.bd {s t : Rs} (h : Gd 0 s t) (k : Bd s) : Bd t := ⟨Nat.le_trans h.g k.1, Nat.le_trans h.d k.2⟩
end Go.Proofs.Ytpcmdijgepbilaa
