/- Sizes of what an expression of at most 500 bytes is read to: instructions, groups, pairs of bytes. No program in sight. -/
import Derived.Test.YtbdichmkgcngbaaGreatRxComp
namespace Go.Proofs.YtbdichmkgcngbaaGreat
set_option linter.unusedVariables false
set_option linter.unusedSimpArgs false
open Go.RowKit

mutual
def Pc.pk : Pc → Prop
 | .leaf _ ps => ps.length ≤ 600
 | .row l => l.pk
 | .ways l => l.pk
 | .group _ k => k.pk
 | .rep _ _ k => k.pk
def PcL.pk : PcL → Prop
 | .nil => True
 | .cons p l => p.pk ∧ l.pk
end
def PkI (l : List In) : Prop := ∀ v ∈ l, v.ps.length ≤ 600
theorem PkI.app {l m : List In} (h : PkI l) (k : PkI m) : PkI (l ++ m) := fun v hv => by
 rcases List.mem_append.1 hv with h1 | h1
 ·
  exact h v h1
 ·
  exact k v h1
theorem PkI.cons {v : In} {m : List In} (h : v.ps.length ≤ 600) (k : PkI m) : PkI (v :: m) := fun u hu => by
 rcases List.mem_cons.1 hu with h1 | h1
 ·
  rw [h1]; exact h
 ·
  exact k u h1
theorem PkI.nil : PkI [] := fun v hv => by cases hv
theorem splitI_pk (z : Bool) (a b : Nat) : (splitI z a b).ps.length ≤ 600 := by cases z <;> simp [splitI]
mutual
theorem Pc.lay_pk (p : Pc) : ∀ at_, p.pk → PkI (p.lay at_) := by
 intro at_ h
 match p, h with
 | .leaf op ps, h => exact PkI.cons h PkI.nil
 | .row l, h => exact PcL.layR_pk l at_ h
 | .ways l, h => exact PcL.layW_pk l at_ _ h
 | .group g k, h =>
  simp only [Pc.lay]
  cases (g == 0)
  ·
   simp only [cond_false]
   exact PkI.cons (by simp) ((Pc.lay_pk k _ h).app (PkI.cons (by simp) PkI.nil))
  ·
   simp only [cond_true]
   exact Pc.lay_pk k _ h
 | .rep op z k, h =>
  simp only [Pc.lay]
  cases (op == 42)
  ·
   simp only [cond_false]
   cases (op == 43)
   ·
    simp only [cond_false]
    exact PkI.cons (splitI_pk _ _ _) (Pc.lay_pk k _ h)
   ·
    simp only [cond_true]
    exact (Pc.lay_pk k _ h).app (PkI.cons (splitI_pk _ _ _) PkI.nil)
  ·
   simp only [cond_true]
   exact PkI.cons (splitI_pk _ _ _) ((Pc.lay_pk k _ h).app (PkI.cons (by simp) PkI.nil))
theorem PcL.layR_pk (l : PcL) : ∀ at_, l.pk → PkI (l.layR at_) := by
 intro at_ h
 match l, h with
 | .nil, _ => exact PkI.nil
 | .cons p l, h =>
  simp only [PcL.layR]
  exact (Pc.lay_pk p _ h.1).app (PcL.layR_pk l _ h.2)
theorem PcL.layW_pk (l : PcL) : ∀ at_ e, l.pk → PkI (l.layW at_ e) := by
 intro at_ e h
 match l, h with
 | .nil, _ => exact PkI.nil
 | .cons p .nil, h => exact Pc.lay_pk p _ h.1
 | .cons p (.cons q l), h =>
  simp only [PcL.layW]
  exact PkI.cons (by simp) ((Pc.lay_pk p _ h.1).app (PkI.cons (by simp) (PcL.layW_pk (.cons q l) _ _ h.2)))
end
theorem pairsS_len (f : Bs) : (pairsS f).length ≤ 600 := by
 have := pairsT_len f 256
 unfold pairsS
 omega
theorem failS_pk (s : Rs) : (failS s).1.pk := trivial
theorem setS_pk (s : Rs) (x : Option Bs × List UInt8) : (setS s x).1.pk := by
 obtain ⟨_ | f, q⟩ := x
 ·
  exact failS_pk _
 ·
  exact pairsS_len f
section
variable {W : Rs → Pc × Rs} (hW : ∀ s, (W s).1.pk)
include hW
theorem groupS_pk (s : Rs) : (groupS W s).1.pk := by
 unfold groupS
 cases Nat.ble 64 s.deep
 ·
  simp only [cond_false]
  cases ((W (openS { s with deep := s.deep + 1 }).2).2.bad || !headIs 41 (W (openS { s with deep := s.deep + 1 }).2).2.rest)
  ·
   exact hW _
  ·
   exact failS_pk _
 ·
  exact failS_pk _
theorem atomS_pk (s : Rs) : (atomS W s).1.pk := by
 unfold atomS
 split
 ·
  exact failS_pk _
 ·
  rename_i c r hr
  cases (c.toNat == 40)
  rotate_left
  ·
   exact groupS_pk hW _
  cases (c.toNat == 94)
  rotate_left
  ·
   exact Nat.zero_le _
  cases (c.toNat == 36)
  rotate_left
  ·
   exact Nat.zero_le _
  cases (c.toNat == 46)
  rotate_left
  ·
   exact pairsS_len _
  cases (c.toNat == 91)
  rotate_left
  ·
   exact setS_pk _ _
  cases (c.toNat == 92)
  rotate_left
  ·
   exact setS_pk _ _
  cases stopC c.toNat
  ·
   exact pairsS_len _
  ·
   exact failS_pk _
theorem pieceS_pk (s : Rs) : (pieceS W s).1.pk := by
 have h0 := atomS_pk hW s
 unfold pieceS
 generalize atomS W s = t at h0 ⊢
 simp only
 cases t.2.bad
 ·
  simp only [cond_false]
  split
  ·
   exact h0
  ·
   rename_i d q _
   cases repC d.toNat
   ·
    exact h0
   ·
    exact h0
 ·
  exact h0
theorem rowS_pk (k : Nat) : ∀ s, (rowS W k s).1.pk := by
 induction k with
 | zero => intro s; trivial
 | succ k ih =>
  intro s
  unfold rowS
  cases (s.bad || endR s.rest)
  ·
   exact ⟨pieceS_pk hW s, ih _⟩
  ·
   trivial
theorem altS_pk (k : Nat) : ∀ s, (altS W k s).1.pk := by
 induction k with
 | zero => intro s; trivial
 | succ k ih =>
  intro s
  unfold altS
  simp only
  cases (!(rowP W s).2.bad && headIs 124 (rowP W s).2.rest)
  ·
   exact ⟨rowS_pk hW _ s, trivial⟩
  ·
   exact ⟨rowS_pk hW _ s, ih _⟩
end
theorem lone_pk {l : PcL} (h : l.pk) : (lone l).pk := by
 match l, h with
 | .nil, _ => trivial
 | .cons p .nil, h => exact h.1
 | .cons p (.cons q m), h => exact h
theorem waysS_pk (n : Nat) : ∀ s, (waysS n s).1.pk := by
 induction n with
 | zero => intro s; exact failS_pk s
 | succ n ih => intro s; exact lone_pk (altS_pk ih _ s)
/-- what Compile's callers ask. -/
theorem code_sizes {l : List UInt8} (h : l.length ≤ 500) : (codeY l).length ≤ 2000 ∧ grpX l ≤ 1000 ∧ ∀ v ∈ codeY l, v.ps.length ≤ 100000 := by
 have h1 := (readS_sz h).1
 have h2 := waysS_gd (l.length + 1) ⟨l, 0, 0, false, false⟩
 have h3 := waysS_pk (l.length + 1) ⟨l, 0, 0, false, false⟩
 have hg := h2.g
 simp only at hg
 refine ⟨?_, ?_, fun v hv => ?_⟩
 ·
  unfold codeY
  cases (errX l == 0)
  ·
   simp
  ·
   simp only [cond_true, codeX, List.length_cons, List.length_append, Pc.lay_len, List.length_nil]
   omega
 ·
  unfold grpX
  cases (errX l == 0)
  ·
   simp
  ·
   simp only [cond_true, readS]
   omega
 ·
  have : PkI (codeY l) := by
   unfold codeY
   cases (errX l == 0)
   ·
    exact PkI.nil
   ·
    simp only [cond_true, codeX]
    exact PkI.cons (by simp) ((Pc.lay_pk _ _ h3).app (PkI.cons (by simp) (PkI.cons (by simp) PkI.nil)))
  have := this v hv
  omega
end Go.Proofs.YtbdichmkgcngbaaGreat
