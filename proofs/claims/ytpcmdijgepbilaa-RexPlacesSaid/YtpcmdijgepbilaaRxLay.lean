/- How long a laid tree is, and how its strokes' jumps are laid and set later; trees that the reader makes. No program in sight. -/
import Derived.Test.YtpcmdijgepbilaaRxGood
namespace Go.Proofs.Ytpcmdijgepbilaa
set_option linter.unusedVariables false
set_option linter.unusedSimpArgs false
open Go.RowKit

mutual
theorem Pc.lay_len : ∀ (p : Pc) (a : Nat), (p.lay a).length = p.sz
  | .leaf op ps, a => rfl
  | .row l, a => by simp only [Pc.lay, Pc.sz]; exact PcL.layR_len l a
  | .ways l, a => by simp only [Pc.lay, Pc.sz]; exact PcL.layW_len l a _
  | .group g k, a => by
    simp only [Pc.lay, Pc.sz]
    cases (g == 0)
    · simp [Pc.lay_len k (a + 1)]
    · simp [Pc.lay_len k a]
  | .rep op z k, a => by
    simp only [Pc.lay, Pc.sz]
    cases (op == 42)
    · cases (op == 43)
      · simp [Pc.lay_len k (a + 1)]
      · simp [Pc.lay_len k a]
    · simp [Pc.lay_len k (a + 1)]
theorem PcL.layR_len : ∀ (l : PcL) (a : Nat), (l.layR a).length = l.szR
  | .nil, a => rfl
  | .cons p l, a => by simp only [PcL.layR, PcL.szR, List.length_append, Pc.lay_len p, PcL.layR_len l]
theorem PcL.layW_len : ∀ (l : PcL) (a e : Nat), (l.layW a e).length = l.szW
  | .nil, a, e => rfl
  | .cons p .nil, a, e => by simp only [PcL.layW, PcL.szW]; exact Pc.lay_len p a
  | .cons p (.cons q l), a, e => by
    simp only [PcL.layW, PcL.szW, List.length_append, List.length_cons, Pc.lay_len p, PcL.layW_len (.cons q l)]
    omega
end

/-- where the jumps of ways stand. -/
def PcL.js : PcL → Nat → List Nat
  | .nil, _ => []
  | .cons _ .nil, _ => []
  | .cons p (.cons q l), a => (a + p.sz + 1) :: (PcL.cons q l).js (a + p.sz + 2)
def putX (e : Nat) (c : List In) (j : Nat) : List In := c.modify j fun v => ⟨v.op, e, v.y, v.ps⟩
theorem putX_len (e : Nat) (c : List In) (j : Nat) : (putX e c j).length = c.length := by simp [putX]
theorem modify_mid (f : In → In) (pre : List In) (v : In) (post : List In) : (pre ++ v :: post).modify pre.length f = pre ++ f v :: post := by
  induction pre with
  | nil => rfl
  | cons a l ih => simp [List.modify_succ_cons, ih]
theorem putX_mid (e : Nat) (pre : List In) (v : In) (post : List In) : putX e (pre ++ v :: post) pre.length = pre ++ ⟨v.op, e, v.y, v.ps⟩ :: post := modify_mid _ _ _ _
theorem fold_layW (e : Nat) : ∀ (l : PcL) (pre : List In) (a : Nat), pre.length = a → (l.js a).foldl (putX e) (pre ++ l.layW a 0) = pre ++ l.layW a e
  | .nil, pre, a, h => rfl
  | .cons p .nil, pre, a, h => rfl
  | .cons p (.cons q l), pre, a, h => by
    simp only [PcL.js, PcL.layW, List.foldl_cons]
    have e1 : pre ++ (⟨2, a + 1, a + p.sz + 2, []⟩ : In) :: (p.lay (a + 1) ++ (⟨3, (0 : Nat), 0, []⟩ : In) :: (PcL.cons q l).layW (a + p.sz + 2) 0) = (pre ++ (⟨2, a + 1, a + p.sz + 2, []⟩ : In) :: p.lay (a + 1)) ++ (⟨3, (0 : Nat), 0, []⟩ : In) :: (PcL.cons q l).layW (a + p.sz + 2) 0 := by simp
    have e2 : a + p.sz + 1 = (pre ++ (⟨2, a + 1, a + p.sz + 2, []⟩ : In) :: p.lay (a + 1)).length := by simp [h, Pc.lay_len]; omega
    rw [e1]
    conv => lhs; rw [e2]
    rw [putX_mid]
    have e3 : (pre ++ (⟨2, a + 1, a + p.sz + 2, []⟩ : In) :: p.lay (a + 1)) ++ (⟨3, e, 0, []⟩ : In) :: (PcL.cons q l).layW (a + p.sz + 2) 0 = ((pre ++ (⟨2, a + 1, a + p.sz + 2, []⟩ : In) :: p.lay (a + 1)) ++ [(⟨3, e, 0, []⟩ : In)]) ++ (PcL.cons q l).layW (a + p.sz + 2) 0 := by simp
    rw [e3]
    have := fold_layW e (.cons q l) ((pre ++ (⟨2, a + 1, a + p.sz + 2, []⟩ : In) :: p.lay (a + 1)) ++ [(⟨3, e, 0, []⟩ : In)]) (a + p.sz + 2) (by simp [h, Pc.lay_len]; omega)
    rw [this]
    simp
theorem PcL.js_lt : ∀ (l : PcL) (a : Nat) (j : Nat), j ∈ l.js a → a ≤ j ∧ j < a + l.szW
  | .nil, a, j, h => by simp [PcL.js] at h
  | .cons p .nil, a, j, h => by simp [PcL.js] at h
  | .cons p (.cons q l), a, j, h => by
    simp only [PcL.js, List.mem_cons] at h
    simp only [PcL.szW]
    rcases h with h | h
    · omega
    · have := PcL.js_lt (.cons q l) _ j h
      omega

def PcL.len : PcL → Nat
  | .nil => 0
  | .cons _ l => l.len + 1
mutual
/-- a tree that the reader makes. -/
def Pc.ok : Pc → Prop
  | .leaf op _ => op = 1 ∨ op = 5 ∨ op = 6
  | .row l => l.len ≤ 6000 ∧ l.ok
  | .ways l => (∃ p m, l = .cons p m) ∧ l.len ≤ 6000 ∧ l.ok
  | .group g k => g ≤ 5000 ∧ k.ok
  | .rep op _ k => (op = 42 ∨ op = 43 ∨ op = 63) ∧ k.ok
def PcL.ok : PcL → Prop
  | .nil => True
  | .cons p l => p.ok ∧ l.ok
end
theorem PcL.szW_cons (p : Pc) (l : PcL) : (PcL.cons p l).szW ≤ p.sz + 2 + l.szW := by
  cases l with
  | nil => simp [PcL.szW]
  | cons q l => simp [PcL.szW]
theorem lone_sz (l : PcL) : (lone l).sz = l.szW := by
  match l with
  | .nil => rfl
  | .cons p .nil => rfl
  | .cons p (.cons q l) => rfl
theorem lone_ok {l : PcL} (hn : ∃ p m, l = .cons p m) (hl : l.len ≤ 6000) (h : l.ok) : (lone l).ok := by
  match l with
  | .nil => obtain ⟨p, m, e⟩ := hn; cases e
  | .cons p .nil => exact h.1
  | .cons p (.cons q l) => exact ⟨⟨_, _, rfl⟩, hl, h⟩
theorem altS_ne (W : Rs → Pc × Rs) (k : Nat) (s : Rs) : ∃ p m, (altS W (k + 1) s).1 = .cons p m := by
  unfold altS
  simp only
  cases (!(rowP W s).2.bad && headIs 124 (rowP W s).2.rest)
  · exact ⟨_, _, rfl⟩
  · exact ⟨_, _, rfl⟩
/-- a tree, and what is left behind it: it is not too long, and the reader's. -/
def Sz (n : Nat) (x : Pc × Rs) : Prop := x.1.sz + 2 * x.2.rest.length ≤ 2 * n ∧ x.1.ok
theorem rowS_len (W : Rs → Pc × Rs) (k : Nat) : ∀ s, (rowS W k s).1.len ≤ k := by
  induction k with
  | zero => intro s; exact Nat.le_refl _
  | succ k ih =>
    intro s
    unfold rowS
    cases (s.bad || endR s.rest)
    · simp only [cond_false, PcL.len]
      exact Nat.succ_le_succ (ih _)
    · simp [PcL.len]
theorem altS_len (W : Rs → Pc × Rs) (k : Nat) : ∀ s, (altS W k s).1.len ≤ k := by
  induction k with
  | zero => intro s; exact Nat.le_refl _
  | succ k ih =>
    intro s
    unfold altS
    simp only
    cases (!(rowP W s).2.bad && headIs 124 (rowP W s).2.rest)
    · simp [PcL.len]
    · simp only [cond_true, PcL.len]
      exact Nat.succ_le_succ (ih _)
theorem Sz.fail {n : Nat} {s : Rs} (h : s.rest.length ≤ n) : Sz n (failS s) := ⟨by simp only [failS, Pc.sz, PcL.szR]; omega, by simp [failS, Pc.ok, PcL.ok, PcL.len]⟩
theorem headIs_cons {c : Nat} {l : List UInt8} (h : headIs c l = true) : ∃ x r, l = x :: r ∧ x.toNat = c := by
  cases l with
  | nil => simp [headIs] at h
  | cons x r => exact ⟨x, r, rfl, by simpa [headIs] using h⟩
section
variable {W : Rs → Pc × Rs} (hW : ∀ s, Gd 0 s (W s).2) (hZ : ∀ s, Bd s → Sz s.rest.length (W s))
include hW hZ
theorem groupS_sz (s : Rs) (hb : s.groups + s.rest.length < 5000) (hd : s.deep + s.rest.length < 5000) : Sz (s.rest.length + 1) (groupS W s) := by
  unfold groupS
  cases Nat.ble 64 s.deep
  rotate_left
  · exact Sz.fail (by simp)
  simp only [cond_false]
  obtain ⟨o1, o2, o3, o4⟩ := openS_gd { s with deep := s.deep + 1 }
  have og : (openS { s with deep := s.deep + 1 }).1 ≤ 5000 := by
    unfold openS
    cases (headIs 63 { s with deep := s.deep + 1 }.rest && headIs 58 ({ s with deep := s.deep + 1 }.rest.drop 1))
    · simp; omega
    · simp
  simp only at o1 o2 o3 o4
  generalize openS { s with deep := s.deep + 1 } = o at *
  have hz := hZ o.2 ⟨by omega, by omega⟩
  have hg := hW o.2
  generalize W o.2 = t at *
  cases hc : (t.2.bad || !headIs 41 t.2.rest)
  rotate_left
  · exact Sz.fail (by have := hg.r; simp; omega)
  simp only [cond_false]
  have hh : headIs 41 t.2.rest = true := by cases e : headIs 41 t.2.rest with | true => rfl | false => rw [e] at hc; simp at hc
  obtain ⟨x, r, hr, _⟩ := headIs_cons hh
  have hz1 := hz.1
  have hr' : t.2.rest.length = r.length + 1 := by rw [hr]; rfl
  refine ⟨?_, og, hz.2⟩
  simp only [Pc.sz, hr, List.drop_succ_cons, List.drop_zero]
  cases (o.1 == 0) <;> (simp only [cond_true, cond_false]; omega)
theorem atomS_sz {s : Rs} {c : UInt8} {r : List UInt8} (h : s.rest = c :: r) (hb : Bd s) : Sz s.rest.length (atomS W s) := by
  have hl : s.rest.length = r.length + 1 := by rw [h]; rfl
  have hx : ∀ x : Option Bs × List UInt8, x.2.length ≤ r.length → Sz s.rest.length (setS s x) := fun x hx => by
    obtain ⟨_ | f, q⟩ := x
    · exact Sz.fail (by simp only at hx ⊢; omega)
    · refine ⟨?_, ?_⟩
      · simp only [setS, Pc.sz] at hx ⊢; omega
      · simp [setS, Pc.ok]
  have hlf : ∀ op ps, (op = 1 ∨ op = 5 ∨ op = 6) → Sz s.rest.length (.leaf op ps, { s with rest := r }) := fun op ps ho => ⟨by simp only [Pc.sz]; omega, by simpa [Pc.ok] using ho⟩
  have hb1 := hb.1
  have hb2 := hb.2
  unfold atomS
  rw [h]
  simp only
  cases (c.toNat == 40)
  rotate_left
  · simp only [cond_true]
    have := groupS_sz hW hZ { s with rest := r } (by simp only; omega) (by simp only; omega)
    rwa [show s.rest.length = r.length + 1 from hl] at *
  cases (c.toNat == 94)
  rotate_left
  · rw [← h]; exact hlf 5 _ (by omega)
  cases (c.toNat == 36)
  rotate_left
  · rw [← h]; exact hlf 6 _ (by omega)
  cases (c.toNat == 46)
  rotate_left
  · rw [← h]; exact hlf 1 _ (by omega)
  cases (c.toNat == 91)
  rotate_left
  · rw [← h]; exact hx _ (classS_len r)
  cases (c.toNat == 92)
  rotate_left
  · rw [← h]; exact hx _ (escS_len r)
  cases stopC c.toNat
  · rw [← h]; exact hlf 1 _ (by omega)
  · rw [← h]; exact Sz.fail (by simp only; omega)
theorem pieceS_sz {s : Rs} {c : UInt8} {r : List UInt8} (h : s.rest = c :: r) (hb : Bd s) : Sz s.rest.length (pieceS W s) := by
  have h0 := atomS_sz hW hZ h hb
  unfold pieceS
  generalize atomS W s = t at h0 ⊢
  simp only
  cases hb : t.2.bad
  rotate_left
  · exact h0
  simp only [cond_false]
  match e : t.2.rest with
  | [] => exact h0
  | d :: q =>
    simp only
    cases hr : repC d.toNat
    · exact h0
    · simp only [cond_true]
      have h1 : (bif headIs 63 q then q.drop 1 else q).length ≤ q.length := by cases headIs 63 q <;> simp
      have h2 : t.2.rest.length = q.length + 1 := by rw [e]; rfl
      have h3 := h0.1
      refine ⟨?_, ?_, h0.2⟩
      · simp only [Pc.sz]
        generalize (bif headIs 63 q then q.drop 1 else q) = q2 at h1 ⊢
        cases (d.toNat == 42) <;> (simp only [cond_true, cond_false]; omega)
      · simp only [repC, Bool.or_eq_true, beq_iff_eq] at hr
        omega
theorem rowS_sz (k : Nat) : ∀ s : Rs, Bd s → (rowS W k s).1.szR + 2 * (rowS W k s).2.rest.length ≤ 2 * s.rest.length ∧ (rowS W k s).1.ok := by
  induction k with
  | zero => intro s _; exact ⟨by simp [rowS, PcL.szR], by simp [rowS, PcL.ok]⟩
  | succ k ih =>
    intro s hB
    unfold rowS
    cases hb : (s.bad || endR s.rest)
    · simp only [cond_false]
      obtain ⟨c, r, hr⟩ : ∃ c r, s.rest = c :: r := by
        match e : s.rest with
        | [] => rw [e] at hb; simp [endR] at hb
        | c :: r => exact ⟨c, r, rfl⟩
      have h1 := pieceS_sz hW hZ hr hB
      have h2 := (pieceS_gd hW hr).1
      generalize pieceS W s = t at *
      have h3 := ih t.2 (h2.bd hB)
      have h4 := h1.1
      exact ⟨by simp only [PcL.szR]; omega, h1.2, h3.2⟩
    · exact ⟨by simp [PcL.szR], by simp [PcL.ok]⟩
theorem altS_sz (k : Nat) : ∀ s : Rs, Bd s → (altS W k s).1.szW + 2 * (altS W k s).2.rest.length ≤ 2 * s.rest.length ∧ (altS W k s).1.ok := by
  induction k with
  | zero => intro s _; exact ⟨by simp [altS, PcL.szW], by simp [altS, PcL.ok]⟩
  | succ k ih =>
    intro s hB
    unfold altS
    have h0 : Gd 0 s (rowP W s).2 := rowS_gd hW _ s
    have h1 : Sz s.rest.length (rowP W s) := by
      have := rowS_sz hW hZ (s.rest.length + 1) s hB
      exact ⟨by simpa only [rowP, Pc.sz] using this.1, by simp only [rowP, Pc.ok]; exact ⟨by have := rowS_len W (s.rest.length + 1) s; have := hB.1; omega, this.2⟩⟩
    generalize rowP W s = t at h0 h1 ⊢
    simp only
    have h4 := h1.1
    cases hb : (!t.2.bad && headIs 124 t.2.rest)
    · simp only [cond_false]
      exact ⟨by simp only [PcL.szW]; omega, h1.2, by simp [PcL.ok]⟩
    · simp only [cond_true]
      have hh : headIs 124 t.2.rest = true := by cases e : headIs 124 t.2.rest with | true => rfl | false => rw [e] at hb; simp at hb
      obtain ⟨x, r, hr, _⟩ := headIs_cons hh
      have hl : t.2.rest.length = r.length + 1 := by rw [hr]; rfl
      have hd : (t.2.rest.drop 1).length = r.length := by rw [hr]; rfl
      have h3 := ih { t.2 with rest := t.2.rest.drop 1 } ((h0.trans (Gd.rest (r := t.2.rest.drop 1) (by simp))).bd hB)
      simp only at h3
      rw [hd] at h3
      have h5 := PcL.szW_cons t.1 (altS W k ⟨t.2.rest.drop 1, t.2.groups, t.2.deep, t.2.bad, t.2.over⟩).1
      exact ⟨by omega, h1.2, h3.2⟩
end
theorem waysS_sz (n : Nat) : ∀ s : Rs, Bd s → Sz s.rest.length (waysS n s) := by
  induction n with
  | zero => intro s _; exact Sz.fail (Nat.le_refl _)
  | succ n ih =>
    intro s hB
    have := altS_sz (waysS_gd n) ih (s.rest.length + 1) s hB
    exact ⟨by simp only [waysS, lone_sz]; exact this.1, lone_ok (altS_ne _ _ _) (by have := altS_len (waysS n) (s.rest.length + 1) s; have := hB.1; omega) this.2⟩
theorem readS_sz {s : List UInt8} (h : s.length ≤ 500) : (readS s).1.sz ≤ 1000 ∧ (readS s).1.ok := by
  have := waysS_sz (s.length + 1) ⟨s, 0, 0, false, false⟩ ⟨by simp only; omega, by simp only; omega⟩
  have h1 := this.1
  simp only at h1
  exact ⟨by unfold readS; omega, this.2⟩
end Go.Proofs.Ytpcmdijgepbilaa
