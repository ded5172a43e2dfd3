/- The places that a laid tree names are its own; groups are counted. No program in sight. · RexPlaces of chapter 11. -/
import Derived.Test.YtpcmdijgepbilaaRxLay
import Derived.Test.YtpcmdijgepbilaaMgRG
import Derived.Test.YtpcmdijgepbilaaMgRB
namespace Go.Proofs.Ytpcmdijgepbilaa
set_option linter.unusedVariables false
set_option linter.unusedSimpArgs false
open Go.RowKit

mutual
/-- no group has a greater number. -/
def Pc.gle (G : Nat) : Pc → Prop
  | .leaf _ _ => True
  | .row l => l.gle G
  | .ways l => l.gle G
  | .group g k => g ≤ G ∧ k.gle G
  | .rep _ _ k => k.gle G
def PcL.gle (G : Nat) : PcL → Prop
  | .nil => True
  | .cons p l => p.gle G ∧ l.gle G
end
mutual
theorem Pc.gle_mono {G G' : Nat} (h : G ≤ G') : ∀ p : Pc, p.gle G → p.gle G'
  | .leaf _ _, _ => trivial
  | .row l, k => by simp only [Pc.gle] at k ⊢; exact PcL.gle_mono h l k
  | .ways l, k => by simp only [Pc.gle] at k ⊢; exact PcL.gle_mono h l k
  | .group g p, k => by simp only [Pc.gle] at k ⊢; exact ⟨Nat.le_trans k.1 h, Pc.gle_mono h p k.2⟩
  | .rep _ _ p, k => by simp only [Pc.gle] at k ⊢; exact Pc.gle_mono h p k
theorem PcL.gle_mono {G G' : Nat} (h : G ≤ G') : ∀ l : PcL, l.gle G → l.gle G'
  | .nil, _ => trivial
  | .cons p l, k => by simp only [PcL.gle] at k ⊢; exact ⟨Pc.gle_mono h p k.1, PcL.gle_mono h l k.2⟩
end
def Gg (s : Rs) (x : Pc × Rs) : Prop := s.groups ≤ x.2.groups ∧ x.1.gle x.2.groups
def GgL (s : Rs) (x : PcL × Rs) : Prop := s.groups ≤ x.2.groups ∧ x.1.gle x.2.groups
theorem Gg.fail {s t : Rs} (h : s.groups ≤ t.groups) : Gg s (failS t) := ⟨h, trivial⟩
theorem openS_gg (s : Rs) : s.groups ≤ (openS s).2.groups ∧ (openS s).1 ≤ (openS s).2.groups := by
  unfold openS
  cases (headIs 63 s.rest && headIs 58 (s.rest.drop 1))
  · simp
  · simp
section
variable {W : Rs → Pc × Rs} (hW : ∀ s, Gg s (W s))
include hW
theorem groupS_gg (s : Rs) : Gg s (groupS W s) := by
  unfold groupS
  cases Nat.ble 64 s.deep
  rotate_left
  · exact Gg.fail (Nat.le_refl _)
  simp only [cond_false]
  obtain ⟨o1, o2⟩ := openS_gg { s with deep := s.deep + 1 }
  simp only at o1 o2
  generalize openS { s with deep := s.deep + 1 } = o at *
  obtain ⟨h1, h2⟩ := hW o.2
  generalize W o.2 = t at *
  cases (t.2.bad || !headIs 41 t.2.rest)
  · exact ⟨Nat.le_trans o1 h1, Nat.le_trans o2 h1, h2⟩
  · exact Gg.fail (Nat.le_trans o1 h1)
omit hW in
theorem setS_gg (s : Rs) (x : Option Bs × List UInt8) : Gg s (setS s x) := by
  obtain ⟨_ | f, q⟩ := x
  · exact Gg.fail (Nat.le_refl _)
  · exact ⟨Nat.le_refl _, trivial⟩
theorem atomS_gg (s : Rs) : Gg s (atomS W s) := by
  unfold atomS
  match s.rest with
  | [] => exact Gg.fail (Nat.le_refl _)
  | c :: r =>
    simp only
    cases (c.toNat == 40)
    rotate_left
    · exact groupS_gg hW { s with rest := r }
    cases (c.toNat == 94)
    rotate_left
    · exact ⟨Nat.le_refl _, trivial⟩
    cases (c.toNat == 36)
    rotate_left
    · exact ⟨Nat.le_refl _, trivial⟩
    cases (c.toNat == 46)
    rotate_left
    · exact ⟨Nat.le_refl _, trivial⟩
    cases (c.toNat == 91)
    rotate_left
    · exact setS_gg s _
    cases (c.toNat == 92)
    rotate_left
    · exact setS_gg s _
    cases stopC c.toNat
    · exact ⟨Nat.le_refl _, trivial⟩
    · exact Gg.fail (Nat.le_refl _)
theorem pieceS_gg (s : Rs) : Gg s (pieceS W s) := by
  have h := atomS_gg hW s
  unfold pieceS
  generalize atomS W s = t at h ⊢
  simp only
  cases t.2.bad
  rotate_left
  · exact h
  match t.2.rest with
  | [] => exact h
  | c :: q =>
    simp only [cond_false]
    cases repC c.toNat
    · exact h
    · exact ⟨h.1, h.2⟩
theorem rowS_gg (k : Nat) : ∀ s, GgL s (rowS W k s) := by
  induction k with
  | zero => intro s; exact ⟨Nat.le_refl _, trivial⟩
  | succ k ih =>
    intro s
    unfold rowS
    cases (s.bad || endR s.rest)
    rotate_left
    · exact ⟨Nat.le_refl _, trivial⟩
    simp only [cond_false]
    obtain ⟨h1, h2⟩ := pieceS_gg hW s
    generalize pieceS W s = t at *
    obtain ⟨h3, h4⟩ := ih t.2
    exact ⟨Nat.le_trans h1 h3, Pc.gle_mono h3 _ h2, h4⟩
theorem altS_gg (k : Nat) : ∀ s, GgL s (altS W k s) := by
  induction k with
  | zero => intro s; exact ⟨Nat.le_refl _, trivial⟩
  | succ k ih =>
    intro s
    unfold altS
    have h : Gg s (rowP W s) := rowS_gg hW _ s
    generalize rowP W s = t at h ⊢
    simp only
    cases (!t.2.bad && headIs 124 t.2.rest)
    · exact ⟨h.1, h.2, trivial⟩
    · simp only [cond_true]
      obtain ⟨h3, h4⟩ := ih { t.2 with rest := t.2.rest.drop 1 }
      exact ⟨Nat.le_trans h.1 h3, Pc.gle_mono h3 _ h.2, h4⟩
end
theorem lone_gle {G : Nat} (l : PcL) (h : l.gle G) : (lone l).gle G := by
  match l, h with
  | .nil, h => exact h
  | .cons p .nil, h => exact h.1
  | .cons p (.cons q l), h => exact h
theorem waysS_gg (n : Nat) : ∀ s, Gg s (waysS n s) := by
  induction n with
  | zero => intro s; exact Gg.fail (Nat.le_refl _)
  | succ n ih =>
    intro s
    have := altS_gg ih (s.rest.length + 1) s
    exact ⟨this.1, lone_gle _ this.2⟩
theorem readS_gg (l : List UInt8) : (readS l).1.gle (readS l).2.groups := (waysS_gg _ _).2

/-- an instruction of a program of n, with G groups, that is not its last. -/
def InOk (n G : Int) (v : In) : Prop := (v.op = 1 ∨ v.op = 5 ∨ v.op = 6) ∨ ((v.op = 2 ∨ v.op = 3) ∧ 0 ≤ v.x ∧ v.x < n ∧ 0 ≤ v.y ∧ v.y < n) ∨ (v.op = 4 ∧ 0 ≤ v.x ∧ v.x ≤ 2 * G + 1)
theorem split_in (n G : Int) (z : Bool) (x y : Int) (h : 0 ≤ x ∧ x < n ∧ 0 ≤ y ∧ y < n) : InOk n G (splitI z x y) := by
  cases z
  · exact .inr (.inl ⟨.inl rfl, h⟩)
  · exact .inr (.inl ⟨.inl rfl, h.2.2.1, h.2.2.2, h.1, h.2.1⟩)
mutual
theorem Pc.lay_in (n : Int) (G : Nat) : ∀ (p : Pc), p.ok → p.gle G → ∀ a : Nat, (a : Int) + p.sz < n → ∀ v ∈ p.lay a, InOk n G v
  | .leaf op ps, h, _, a, ha, v, hv => by
    simp only [Pc.lay, List.mem_singleton] at hv
    simp only [Pc.ok] at h
    subst hv
    left
    simp only
    omega
  | .row l, h, k, a, ha, v, hv => by simp only [Pc.ok, Pc.gle, Pc.sz, Pc.lay] at h k ha hv; exact PcL.layR_in n G l h.2 k a ha v hv
  | .ways l, h, k, a, ha, v, hv => by
    simp only [Pc.ok, Pc.gle, Pc.sz, Pc.lay] at h k ha hv
    exact PcL.layW_in n G l h.2.2 k a _ ha (by omega) v hv
  | .group g p, h, k, a, ha, v, hv => by
    simp only [Pc.ok, Pc.gle, Pc.sz, Pc.lay] at h k ha hv
    cases hg : (g == 0)
    · simp only [hg, cond_false, List.mem_cons, List.mem_append, List.not_mem_nil, or_false] at hv ha
      rcases hv with rfl | hv | rfl
      · right; right; simp only; exact ⟨trivial, by omega, by omega⟩
      · exact Pc.lay_in n G p h.2 k.2 (a + 1) (by omega) v hv
      · right; right; simp only; exact ⟨trivial, by omega, by omega⟩
    · simp only [hg, cond_true] at hv ha
      exact Pc.lay_in n G p h.2 k.2 a ha v hv
  | .rep op z p, h, k, a, ha, v, hv => by
    simp only [Pc.ok, Pc.gle, Pc.sz, Pc.lay] at h k ha hv
    cases h1 : (op == 42)
    · simp only [h1, cond_false] at hv ha
      cases h2 : (op == 43)
      · simp only [h2, cond_false, List.mem_cons] at hv
        rcases hv with rfl | hv
        · exact split_in _ _ _ _ _ (by omega)
        · exact Pc.lay_in n G p h.2 k (a + 1) (by omega) v hv
      · simp only [h2, cond_true, List.mem_append, List.mem_singleton] at hv
        rcases hv with hv | rfl
        · exact Pc.lay_in n G p h.2 k a (by omega) v hv
        · exact split_in _ _ _ _ _ (by omega)
    · simp only [h1, cond_true, List.mem_cons, List.mem_append, List.not_mem_nil, or_false] at hv ha
      rcases hv with rfl | hv | rfl
      · exact split_in _ _ _ _ _ (by omega)
      · exact Pc.lay_in n G p h.2 k (a + 1) (by omega) v hv
      · exact .inr (.inl ⟨.inr rfl, by first | omega | (simp only; omega), by first | omega | (simp only; omega), by first | omega | (simp only; omega), by first | omega | (simp only; omega)⟩)
theorem PcL.layR_in (n : Int) (G : Nat) : ∀ (l : PcL), l.ok → l.gle G → ∀ a : Nat, (a : Int) + l.szR < n → ∀ v ∈ l.layR a, InOk n G v
  | .nil, _, _, _, _, v, hv => by cases hv
  | .cons p l, h, k, a, ha, v, hv => by
    simp only [PcL.ok, PcL.gle, PcL.szR, PcL.layR, List.mem_append] at h k ha hv
    rcases hv with hv | hv
    · exact Pc.lay_in n G p h.1 k.1 a (by omega) v hv
    · exact PcL.layR_in n G l h.2 k.2 (a + p.sz) (by omega) v hv
theorem PcL.layW_in (n : Int) (G : Nat) : ∀ (l : PcL), l.ok → l.gle G → ∀ a e : Nat, (a : Int) + l.szW < n → (e : Int) < n → ∀ v ∈ l.layW a e, InOk n G v
  | .nil, _, _, _, _, _, _, v, hv => by cases hv
  | .cons p .nil, h, k, a, e, ha, he, v, hv => by
    simp only [PcL.ok, PcL.gle, PcL.szW, PcL.layW] at h k ha hv
    exact Pc.lay_in n G p h.1 k.1 a ha v hv
  | .cons p (.cons q l), h, k, a, e, ha, he, v, hv => by
    have h' : p.ok ∧ (PcL.cons q l).ok := h
    have k' : p.gle G ∧ (PcL.cons q l).gle G := k
    simp only [PcL.szW, PcL.layW, List.mem_cons, List.mem_append] at ha hv
    rcases hv with rfl | hv | rfl | hv
    · exact .inr (.inl ⟨.inl rfl, by first | omega | (simp only; omega), by first | omega | (simp only; omega), by first | omega | (simp only; omega), by first | omega | (simp only; omega)⟩)
    · exact Pc.lay_in n G p h'.1 k'.1 (a + 1) (by omega) v hv
    · exact .inr (.inl ⟨.inr rfl, by first | omega | (simp only; omega), by first | omega | (simp only; omega), by first | omega | (simp only; omega), by first | omega | (simp only; omega)⟩)
    · exact PcL.layW_in n G (.cons q l) h'.2 k'.2 (a + p.sz + 2) e (by omega) he v hv
end
/-- what RexPlaces asks of the instruction at a place. -/
theorem code_in (l : List UInt8) (hl : l.length ≤ 500) (N : Nat) (hN : N = (codeX l).length) (k : Nat) (hk : k < (codeX l).length) : 3 ≤ N ∧ N ≤ 1003 ∧
    ((k + 1 = N ∧ (codeX l)[k].op = 7) ∨ (k + 1 < N ∧ InOk N (readS l).2.groups (codeX l)[k])) := by
  obtain ⟨z1, z2⟩ := readS_sz hl
  have hg := readS_gg l
  have hlen : N = (readS l).1.sz + 3 := by rw [hN]; simp only [codeX, List.length_cons, List.length_append, Pc.lay_len, List.length_nil]
  refine ⟨by omega, by omega, ?_⟩
  have e : codeX l = (⟨4, 0, 0, []⟩ :: ((readS l).1.lay 1 ++ [⟨4, 1, 0, []⟩])) ++ [⟨7, 0, 0, []⟩] := by simp [codeX]
  have hfl : (⟨4, 0, 0, []⟩ :: ((readS l).1.lay 1 ++ [⟨4, 1, 0, []⟩]) : List In).length = (readS l).1.sz + 2 := by simp [Pc.lay_len]
  rcases Nat.lt_or_ge (k + 1) N with h | h
  · right
    refine ⟨h, ?_⟩
    have e2 : (codeX l)[k] = (⟨4, 0, 0, []⟩ :: ((readS l).1.lay 1 ++ [⟨4, 1, 0, []⟩]) : List In)[k]'(by rw [hfl]; omega) := by
      simp only [e]
      exact List.getElem_append_left _
    rw [e2]
    have hm := List.getElem_mem (l := (⟨4, 0, 0, []⟩ :: ((readS l).1.lay 1 ++ [⟨4, 1, 0, []⟩]) : List In)) (n := k) (by rw [hfl]; omega)
    generalize (⟨4, 0, 0, []⟩ :: ((readS l).1.lay 1 ++ [⟨4, 1, 0, []⟩]) : List In)[k]'(by rw [hfl]; omega) = v at hm ⊢
    rcases List.mem_cons.1 hm with rfl | hm
    · right; right; exact ⟨rfl, by simp, by simp only; omega⟩
    · rcases List.mem_append.1 hm with hm | hm
      · exact Pc.lay_in N _ _ z2 hg 1 (by omega) v hm
      · rw [List.mem_singleton] at hm
        subst hm
        right; right; exact ⟨rfl, by simp, by simp only; omega⟩
  · left
    refine ⟨by omega, ?_⟩
    have e2 : (codeX l)[k] = [(⟨7, 0, 0, []⟩ : In)][k - ((readS l).1.sz + 2)]'(by simp; omega) := by
      simp only [e]
      rw [List.getElem_append_right (by rw [hfl]; omega)]
      simp only [hfl]
    rw [e2]
    have : k - ((readS l).1.sz + 2) = 0 := by omega
    simp only [this]
    rfl
end Go.Proofs.Ytpcmdijgepbilaa
namespace Go.Proofs.Ytpcmdijgepbilaa
set_option linter.unusedVariables false
set_option linter.unusedSimpArgs false
open Go.RowKit

set_option maxRecDepth 100000 in
set_option maxHeartbeats 6400000 in
theorem places_err (s : ByteArray) (w : World) (hs : s.size ≤ 200) (he : errX s.data.toList ≠ 0) : Calls Try.prog 3 #[.string s] w fun e w' => e = .returned (.bool true) ∧ Gr w w' := by
  have hs1 : (s.size : Int) ≤ 200 := by omega
  have HC := Lib.hid (fun w => compile_any s (by omega) w)
  have HR := Lib.hid (fun w => rcomp_any s (by omega) w)
  obtain ⟨E, hE⟩ : ∃ E, E = errX s.data.toList := ⟨_, rfl⟩
  rw [← hE] at he
  have HE := Lib.hid hE
  have h1 : (E == 0) = false := beq_eq_false_iff_ne.2 he
  have h2 : (E != 0) = true := by rw [bne, h1]; rfl
  have hb := Lib.hid he
  clear hE he
  go_enter Try.func3, Try.ntmps3
  go_wp2_with (first | (go_at_call 7; refine (HC.out _).mono ?_; rintro e w1 ⟨A1, c1, rfl, -, hg1, -⟩; simp only [← HE.out]) | (go_at_call 8; refine (HR.out _).mono ?_; rintro e w2 ⟨A2, c2, rfl, -, hg2, -⟩; simp only [← HE.out]) | (go_at_call 9; refine (known_any _).mono ?_; rintro e w3 ⟨rfl, hg3⟩))
  go_ret
  exact ⟨rfl, (((hg1.alloc _).trans hg2).alloc _).trans hg3⟩
set_option maxRecDepth 100000 in
set_option maxHeartbeats 6400000 in
theorem places_ok (s : ByteArray) (w : World) (hs : s.size ≤ 200) (he : errX s.data.toList = 0) : Calls Try.prog 3 #[.string s] w fun e w' => e = .returned (.bool true) ∧ Gr w w' := by
  have hs1 : (s.size : Int) ≤ 200 := by omega
  have hgx : grpX s.data.toList = (readS s.data.toList).2.groups := by simp [grpX, he]
  have hcx : codeY s.data.toList = codeX s.data.toList := by simp [codeY, he]
  obtain ⟨G, hG⟩ : ∃ G, G = (readS s.data.toList).2.groups := ⟨_, rfl⟩
  obtain ⟨code, hcode⟩ : ∃ code, code = codeX s.data.toList := ⟨_, rfl⟩
  obtain ⟨N, hN⟩ : ∃ N, N = code.length := ⟨_, rfl⟩
  have hin := code_in s.data.toList (by simp; omega) N (by rw [hN, hcode])
  have hgd : G ≤ 500 := by
    have := (waysS_gd (s.data.toList.length + 1) ⟨s.data.toList, 0, 0, false, false⟩).g
    simp only at this
    rw [hG]
    unfold readS
    simp at this ⊢
    omega
  have HC : Hid (∀ w, Calls Try.prog 7 #[.string s] w fun e w' => ∃ A c, e = .returned (.tuple #[.agg #[.int .i64 G, .slice A N c], .int .i64 0]) ∧ Ri w' A code ∧ Gr w w') := Lib.hid fun w => by
    refine (compile_any s (by omega) w).mono ?_
    rintro e w' ⟨A, c, h1, h2, h3, -⟩
    rw [hgx, hcx, he, ← hG, ← hcode, ← hN] at h1
    rw [hcx, ← hcode] at h2
    exact ⟨A, c, h1, h2, h3⟩
  rw [← hcode, ← hG] at hin
  have hN3 : 3 ≤ N ∧ N ≤ 1003 := by
    have := hin 0 (by rw [hcode]; simp [codeX])
    omega
  have Hin := Lib.hid hin
  have HN := Lib.hid hN
  obtain ⟨hN1, hN2⟩ := hN3
  clear hin hN hcode hG hcx hgx he
  go_enter Try.func3, Try.ntmps3
  go_upto_region 4 with (go_at_call 7; refine (HC.out _).mono ?_; rintro e w1 ⟨A, c, rfl, hr, hg1⟩)
  have gV : Gr w1 (w1.alloc (.cells #[.int .i64 G, .slice A N c] 24)) := Gr.alloc (Gr.refl _) _
  have hr2 := hr.gr gV
  have hg2 := hg1.trans gV
  have v0 : (w1.alloc (.cells #[.int .i64 G, .slice A N c] 24)).cell? ⟨w1.heap.size, 0, none⟩ = some (.int .i64 G) := by go_simp
  have v1 : (w1.alloc (.cells #[.int .i64 G, .slice A N c] 24)).cell? ⟨w1.heap.size, 1, none⟩ = some (.slice A N c) := by go_simp
  have hz : w1.heap.size < (w1.alloc (.cells #[.int .i64 G, .slice A N c] 24)).heap.size := by simp
  clear hr hg1 gV
  generalize (w1.alloc (.cells #[.int .i64 G, .slice A N c] 24)) = V at hr2 hg2 v0 v1 hz ⊢
  generalize w1.heap.size = b at v0 v1 hz ⊢
  have Hr := Lib.hid hr2
  have Hg := Lib.hid hg2
  clear hr2 hg2
  go_wp2
  go_loopw [8] (fun i wr => ∃ k : Nat, k ≤ N ∧ i = .int .i64 k ∧ Gr V wr) (fun i _ => N - (intOf i).toNat)
  case atStart => exact ⟨0, Nat.zero_le _, rfl, Gr.refl _⟩
  case round =>
    obtain ⟨k, hk, rfl, hgr⟩ := hrel
    have u0 := (hgr.cell (p := ⟨b, 0, none⟩) hz).trans v0
    have u1 := (hgr.cell (p := ⟨b, 1, none⟩) hz).trans v1
    have hbz : b < wr.heap.size := Nat.lt_of_lt_of_le hz hgr.size
    have HG := Lib.hid hgr
    clear v0 v1
    by_cases hlt : k < N
    · have hlt' : (k : Int) < (N : Int) := by omega
      have hkc : k < code.length := by rw [← HN.out]; exact hlt
      obtain ⟨ad, rfl, hadlt, d0, d1, d2, d3⟩ := Ri.at (Hr.out.gr hgr) hkc
      obtain ⟨-, -, hcase⟩ := Hin.out k hkc
      generalize code[k] = v at d0 d1 d2 d3 hcase
      obtain ⟨op, x, y, ps⟩ := v
      unfold InOk at hcase
      simp only at d0 d1 d2 d3 hcase
      clear hgr
      rcases hcase with ⟨hkN, rfl⟩ | ⟨hkN, (rfl | rfl | rfl) | ⟨rfl | rfl, x1, x2, y1, y2⟩ | ⟨rfl, x1, x2⟩⟩
      · have t1 : ((k : Int) == (N : Int) - 1) = true := by simp; omega
        clear hkN
        go_wp2
        go_roundw
        case rel => exact ⟨k + 1, by omega, by go_num, HG.out.alloc _⟩
        case measure => simp [intOf]; omega
      · have t1 : ((k : Int) == (N : Int) - 1) = false := by simp; omega
        clear hkN
        go_wp2
        go_roundw
        case rel => exact ⟨k + 1, by omega, by go_num, HG.out.alloc _⟩
        case measure => simp [intOf]; omega
      · have t1 : ((k : Int) == (N : Int) - 1) = false := by simp; omega
        clear hkN
        go_wp2
        go_roundw
        case rel => exact ⟨k + 1, by omega, by go_num, HG.out.alloc _⟩
        case measure => simp [intOf]; omega
      · have t1 : ((k : Int) == (N : Int) - 1) = false := by simp; omega
        clear hkN
        go_wp2
        go_roundw
        case rel => exact ⟨k + 1, by omega, by go_num, HG.out.alloc _⟩
        case measure => simp [intOf]; omega
      · have t1 : ((k : Int) == (N : Int) - 1) = false := by simp; omega
        have q1 : decide (x < 0) = false := by simp; omega
        have q2 : decide ((N : Int) ≤ x) = false := by simp; omega
        have q3 : decide (y < 0) = false := by simp; omega
        have q4 : decide ((N : Int) ≤ y) = false := by simp; omega
        clear hkN
        go_wp2
        go_roundw
        case rel => exact ⟨k + 1, by omega, by go_num, HG.out.alloc _⟩
        case measure => simp [intOf]; omega
      · have t1 : ((k : Int) == (N : Int) - 1) = false := by simp; omega
        have q1 : decide (x < 0) = false := by simp; omega
        have q2 : decide ((N : Int) ≤ x) = false := by simp; omega
        have q3 : decide (y < 0) = false := by simp; omega
        have q4 : decide ((N : Int) ≤ y) = false := by simp; omega
        clear hkN
        go_wp2
        go_roundw
        case rel => exact ⟨k + 1, by omega, by go_num, HG.out.alloc _⟩
        case measure => simp [intOf]; omega
      · have t1 : ((k : Int) == (N : Int) - 1) = false := by simp; omega
        have q1 : decide (x < 0) = false := by simp; omega
        have q2 : decide (2 * (G : Int) + 1 < x) = false := by simp; omega
        clear hkN
        go_wp2
        go_roundw
        case rel => exact ⟨k + 1, by omega, by go_num, HG.out.alloc _⟩
        case measure => simp [intOf]; omega
    · have hge : ¬ (k : Int) < (N : Int) := by omega
      have hN3 : (3 : Int) ≤ (N : Int) := by omega
      go_wp2_with (go_at_call 9; refine (known_any _).mono ?_; rintro e w3 ⟨rfl, hg3⟩)
      go_ret
      exact ⟨rfl, (Hg.out.trans HG.out).trans hg3⟩
set_option maxRecDepth 100000 in
set_option maxHeartbeats 6400000 in
theorem law_RexPlaces (s : ByteArray) (w : World) : Calls Try.prog 3 #[.string s] w fun e w' => e = .returned (.bool true) ∧ Gr w w' := by
  by_cases hs : s.size ≤ 200
  · by_cases he : errX s.data.toList = 0
    · exact places_ok s w hs he
    · exact places_err s w hs he
  · have h0 : (200 : Int) < (s.size : Int) := by omega
    go_enter Try.func3, Try.ntmps3
    go_wp2
    go_ret
    exact ⟨rfl, Gr.refl _⟩
end Go.Proofs.Ytpcmdijgepbilaa
