/- Retentions of the reference. · RulesRetentions of chapter 25. · Chapter 11 in plain Lean: sets of bytes, their runs, how an expression is read as a tree, and how a tree is laid as instructions. No program in sight. · 'GX R': what leaves all but one block alone. No program in sight. -/
import Derived.Test.YtjapddfnpmlifaaGreatDoorRunRuChk
import Derived.Test.YtjapddfnpmlifaaGreatDoorRuMay
import Derived.Test.YtjapddfnpmlifaaGreatDoorRunRuArc2
import Derived.WalkKit
import Derived.Test.YtjapddfnpmlifaaGreatDoorRunRuSize
namespace Go.Proofs.YtjapddfnpmlifaaGreatDoor
set_option linter.unusedVariables false
set_option linter.unusedSimpArgs false
open Go.RowKit

/-- a retention by its parts. -/
def archP : List (List UInt8) → Option (Nat × Nat)
 | [a, b] => match unsS a, unsS b with
  | some (step, _), some (n, long) => bif step == 0 then none else some (step, bif long then n / step else n)
  | _, _ => none
 | _ => none
theorem plain_no {l : List UInt8} (h : (58 : UInt8) ∈ l) : unsS l = none := by
 have hd : isDg 58 = false := rfl
 have hw : allDg (tailS l) = false := by
  unfold tailS
  cases hm : minusS l
  ·
   simp only [cond_false]
   cases e : allDg l
   ·
    rfl
   ·
    unfold allDg at e
    rw [Bool.and_eq_true, List.all_eq_true] at e
    have := e.1 58 h
    rw [hd] at this; cases this
  ·
   simp only [cond_true]
   match l, hm, h with
   | x :: r, hm, h =>
    have hx : x = 45 := by simpa [minusS] using hm
    have h' : (58 : UInt8) ∈ r := by
     rcases List.mem_cons.1 h with e | h
     ·
      rw [hx] at e; exact absurd e (by decide)
     ·
      exact h
    cases e : allDg r
    ·
     simpa using e
    ·
     unfold allDg at e
     rw [Bool.and_eq_true, List.all_eq_true] at e
     have := e.1 58 h'
     rw [hd] at this; cases this
 have hwn : wholeN l = none := by unfold wholeN; rw [hw]; rfl
 have hin : intvS l = none := by
  unfold intvS
  split
  ·
   rfl
  ·
   have hu : unitS (l.drop (dgN l)) = 0 := by
    have h2 : (58 : UInt8) ∈ l.drop (dgN l) := by
     have h3 := h
     rw [← List.take_append_drop (dgN l) l] at h3
     rcases List.mem_append.1 h3 with h4 | h4
     ·
      have := List.all_eq_true.1 (dgN_take l) 58 h4
      rw [hd] at this; cases this
     ·
      exact h4
    have key : ∀ m : List (List (List UInt8) × Nat), (∀ x ∈ m, ∀ y ∈ x.1, (58 : UInt8) ∉ y) → unitF (l.drop (dgN l)) m = 0 := by
     intro m
     induction m with
     | nil => intro _; rfl
     | cons x m ih =>
      intro hm
      obtain ⟨x1, x2⟩ := x
      unfold unitF
      have : inLU (l.drop (dgN l)) x1 = false := by
       unfold inLU
       rw [List.any_eq_false]
       intro y hy e
       have e' : y = l.drop (dgN l) := by simpa using e
       exact hm (x1, x2) (List.mem_cons_self ..) y hy (e' ▸ h2)
      rw [this]
      exact ih (fun y hy => hm y (List.mem_cons_of_mem _ hy))
    exact key names (by decide)
   rw [hu]
   rfl
 unfold unsS
 rw [hwn, hin]
 cases signB l <;> rfl
theorem archP_eq (l : List UInt8) : archS l = archP (partS 58 l) := by
 rw [arch_of]
 cases hc : cutS 58 l with
 | none => rw [partS_none hc]; rfl
 | some p =>
  obtain ⟨a, b⟩ := p
  rw [partS_some hc]
  cases hd : cutS 58 b with
  | none => rw [partS_none hd]; rfl
  | some q =>
   obtain ⟨b1, b2⟩ := q
   have hm : (58 : UInt8) ∈ b := by rw [(cutS_some hd).1]; simp
   have hn := partS_ne 58 b2
   rw [partS_some hd]
   simp only
   rw [plain_no hm]
   cases h3 : partS 58 b2 with
   | nil => rw [h3] at hn; simp at hn
   | cons x y =>
    simp only [archP]
    cases unsS a with
    | none => rfl
    | some z => rfl
theorem archP_ne {P : List (List UInt8)} (h : ¬ P.length = 2) : archP P = none := by
 match P, h with
 | [], _ => rfl
 | [_], _ => rfl
 | [_, _], h => exact absurd rfl h
 | _ :: _ :: _ :: _, _ => rfl
theorem archsS_len : ∀ (m : List (List UInt8)) (l : List (Nat × Nat)), archsS m = some l → l.length = m.length
 | [], l, h => by simp only [archsS, Option.some.injEq] at h; subst h; rfl
 | p :: m, l, h => by
  unfold archsS at h
  cases hp : archS p with
  | none => rw [hp] at h; cases h
  | some a =>
   rw [hp] at h
   cases hm : archsS m with
   | none => rw [hm] at h; cases h
   | some r =>
    rw [hm] at h
    simp only [Option.map_some, Option.some.injEq] at h
    subst h
    simp [archsS_len m r hm]
/-- how far the reference is. -/
structure RtJ (w : World) (B0 h b : Nat) (m : List (List UInt8)) (wr : World) (v : Value) (k : Nat) (l : List (Nat × Nat)) : Prop where
 gr : Gr w wr
 sz : B0 ≤ wr.heap.size
 S : Strs wr b m
 c0 : wr.cell? ⟨h, 0, none⟩ = some (.int .i64 1)
 c1 : wr.cell? ⟨h, 1, none⟩ = some (.int .i64 0)
 c2 : wr.cell? ⟨h, 2, none⟩ = some v
 f2 : wr.frozen? ⟨h, 2, none⟩ = false
 own : wr.ownsRow B0 34 2 v k (acells l)
 J : ArJ m k l
theorem RtJ.gr' {w : World} {B0 h b : Nat} {m : List (List UInt8)} {wr wr' : World} {v : Value} {k : Nat} {l : List (Nat × Nat)} (I : RtJ w B0 h b m wr v k l) (hB : b ≠ h ∧ h < B0 ∧ b < B0) (g : Gr wr wr') : RtJ w B0 h b m wr' v k l :=
 ⟨I.gr.trans g, Nat.le_trans I.sz g.size, I.S.gr (Nat.lt_of_lt_of_le hB.2.2 I.sz) g, (Below.cell g (p := ⟨h, 0, none⟩) (Nat.lt_of_lt_of_le hB.2.1 I.sz)).trans I.c0, (Below.cell g (p := ⟨h, 1, none⟩) (Nat.lt_of_lt_of_le hB.2.1 I.sz)).trans I.c1, (Below.cell g (p := ⟨h, 2, none⟩) (Nat.lt_of_lt_of_le hB.2.1 I.sz)).trans I.c2, (Below.frozen g (p := ⟨h, 2, none⟩) (Nat.lt_of_lt_of_le hB.2.1 I.sz)).trans I.f2, own_grU I.own g, I.J⟩
theorem RtJ.keep {w : World} {B0 h b : Nat} {m : List (List UInt8)} {w4 w5 : World} {v : Value} {k : Nat} {l : List (Nat × Nat)} {o : Obj} (I : RtJ w B0 h b m w4 v k l) (hg : (w4.alloc o).grownBy w5 v.ownBlock) {x : Nat} (hx : x < B0) : w5.heap[x]? = w4.heap[x]? := by
 have hx4 : x < w4.heap.size := Nat.lt_of_lt_of_le hx I.sz
 rw [hg.block x (by simp; omega) (fun e => by have := (I.own.lt x e.symm).1; omega)]
 exact heap_alloc_old _ _ hx4
theorem RtJ.mid {w : World} {B0 h b : Nat} {m : List (List UInt8)} {w4 w5 : World} {v : Value} {k : Nat} {l : List (Nat × Nat)} {o : Obj} (I : RtJ w B0 h b m w4 v k l) (hB : b ≠ h ∧ h < B0 ∧ b < B0) (hg : (w4.alloc o).grownBy w5 v.ownBlock) : w5.cell? ⟨h, 2, none⟩ = some v ∧ w5.frozen? ⟨h, 2, none⟩ = false :=
 ⟨(World.cell?_of_block (I.keep hg hB.2.1)).trans I.c2, (World.frozen?_of_block (I.keep hg hB.2.1)).trans I.f2⟩
theorem RtJ.put {w : World} {B0 h b : Nat} {m : List (List UInt8)} {w4 w5 : World} {v v' : Value} {k : Nat} {l : List (Nat × Nat)} {o : Obj} {a : Nat × Nat} (I : RtJ w B0 h b m w4 v k l) (hB : b ≠ h ∧ h < B0 ∧ b < B0) (hwh : w.heap.size ≤ h) (hk : k < m.length) (ha : archS m[k] = some a) (own2 : w5.ownsRow B0 34 2 v' (k + 1) (acells l ++ acells [a])) (hg : (w4.alloc o).grownBy w5 v.ownBlock) : RtJ w B0 h b m (w5.setCell ⟨h, 2, none⟩ v') v' (k + 1) (l ++ [a]) := by
 have e : ∀ (x i : Nat), x < B0 → w5.cell? ⟨x, i, none⟩ = w4.cell? ⟨x, i, none⟩ := fun x i hx => World.cell?_of_block (I.keep hg hx)
 have g5 : Gr w w5 := Gr.grown (Gr.alloc I.gr _) hg (fun k hk => by have := (I.own.lt k hk).1; omega)
 refine ⟨g5.setCell hwh _, ?_, fun j hj => ?_, ?_, ?_, ?_, ?_, ?_, I.J.step hk ha⟩
 ·
  have := I.sz; have := hg.size; simp at this ⊢; omega
 ·
  rw [World.cell?_setCell_other w5 ⟨h, 2, none⟩ ⟨b, j, none⟩ _ (by simp; first | done | omega), e b j hB.2.2]; exact I.S j hj
 ·
  rw [World.cell?_setCell_other w5 ⟨h, 2, none⟩ ⟨h, 0, none⟩ _ (by simp), e h 0 hB.2.1]; exact I.c0
 ·
  rw [World.cell?_setCell_other w5 ⟨h, 2, none⟩ ⟨h, 1, none⟩ _ (by simp), e h 1 hB.2.1]; exact I.c1
 ·
  exact World.cell?_setCell_same' _ _ _ (by rw [(I.mid hB hg).1]; rfl)
 ·
  rw [World.frozen?_setCell]; exact (I.mid hB hg).2
 ·
  rw [acells_append]; exact own_setU own2 hB.2.1 _
set_option maxRecDepth 100000 in
set_option maxHeartbeats 6400000 in
theorem ref_Retentions (s : ByteArray) (hs : (s.size : Int) ≤ 300) (w : World) : Calls Tryz.prog 41 #[.string s] w (RetG (retS s.data.toList) w) := by
 obtain ⟨i0, hi, hz0, hz1, hz2⟩ := info_parts info_arch
 obtain ⟨m, hmm⟩ : ∃ m, m = partS 44 s.data.toList := ⟨_, rfl⟩
 have hml : m.length ≤ 301 := by
  have := partS_len 44 s.data.toList
  rw [← hmm] at this
  have e : s.data.toList.length = s.size := by simp
  omega
 have hmp : ∀ p ∈ m, p.length ≤ 300 := fun p hp => by
  have := (partS_mem 44 s.data.toList p (hmm ▸ hp)).1
  have e : s.data.toList.length = s.size := by simp
  omega
 have hret : retS s.data.toList = match archsS m with | none => none | some l => bif mayS l then some l else none := by rw [hmm]; rfl
 have HS := Lib.hid (fun w => ref_split s (by omega) 44 w)
 rw [← hmm] at HS
 have Hret := Lib.hid hret
 have Hmp := Lib.hid hmp
 clear hmm hret hmp
 obtain ⟨V, hV⟩ : ∃ V, V = w.alloc (.cells #[.int .i64 1, .int .i64 0, .slice none 0 0] 29) := ⟨_, rfl⟩
 have gV : Gr w V := by rw [hV]; exact Gr.alloc (Gr.refl w) _
 have hzV : w.heap.size < V.heap.size := by rw [hV]; simp
 have hzV1 : V.heap.size = w.heap.size + 1 := by rw [hV]; simp
 have c0 : V.cell? ⟨w.heap.size, 0, none⟩ = some (.int .i64 1) := by rw [hV]; go_simp
 have c1 : V.cell? ⟨w.heap.size, 1, none⟩ = some (.int .i64 0) := by rw [hV]; go_simp
 have c2 : V.cell? ⟨w.heap.size, 2, none⟩ = some (.slice none 0 0) := by rw [hV]; go_simp
 have f2 : V.frozen? ⟨w.heap.size, 2, none⟩ = false := by rw [hV]; go_simp
 have HV := Lib.hid hV
 have GV := Lib.hid gV
 clear hV gV
 go_enter Tryz.func41, Tryz.ntmps41
 go_upto_region 2 with (fail)
 rw [← HV.out]
 clear HV
 go_upto_region 3 with (go_at_call 27; refine (HS.out _).mono ?_; rintro e w1 ⟨b, cp, rfl, hb0, hb, hS, g1⟩)
 have hh : w.heap.size < w1.heap.size := Nat.lt_of_lt_of_le hzV g1.size
 have I0 : RtJ w w1.heap.size w.heap.size b m w1 (.slice none 0 0) 0 [] := ⟨GV.out.trans g1, Nat.le_refl _, hS, (Below.cell g1 (p := ⟨w.heap.size, 0, none⟩) hzV).trans c0, (Below.cell g1 (p := ⟨w.heap.size, 1, none⟩) hzV).trans c1, (Below.cell g1 (p := ⟨w.heap.size, 2, none⟩) hzV).trans c2, (Below.frozen g1 (p := ⟨w.heap.size, 2, none⟩) hzV).trans f2, World.ownsRow_nil _ _ _ _, rfl, fun j _ h => absurd h (Nat.not_lt_zero _)⟩
 have hbh : b ≠ w.heap.size := by omega
 have GF0 := Lib.hid I0.gr
 have HB := Lib.hid (And.intro hbh (And.intro hh hb))
 have HI0 := Lib.hid I0
 clear I0 c0 c1 c2 f2 hzV hzV1 hb0 hS g1 hbh
 by_cases h8 : 8 < m.length
 ·
  have h8' : (8 : Int) < (m.length : Int) := by omega
  have HN : Hid (retS s.data.toList = none) := Lib.hid (by
   rw [Hret.out]
   cases ha : archsS m with
   | none => rfl
   | some l =>
    have := archsS_len m l ha
    simp only
    rw [mayS_len (.inr (by omega))]
    rfl)
  clear h8
  go_wp2
  go_ret2
  exact RetG.none' HN.out GF0.out
 have h8' : ¬ (8 : Int) < (m.length : Int) := by omega
 go_wp2
 go_loopw [6] (fun i wr => ∃ (k : Nat) (v : Value) (l : List (Nat × Nat)), k ≤ m.length ∧ i = .int .i64 k ∧ RtJ w w1.heap.size w.heap.size b m wr v k l) (fun i _ => m.length - (intOf i).toNat)
 case atStart => exact ⟨0, _, [], Nat.zero_le _, rfl, HI0.out⟩
 case round =>
  obtain ⟨k, v, l, hk, rfl, I⟩ := hrel
  have hb := HB.out.2.2
  by_cases hlt : k < m.length
  ·
   have hki : (k : Int) < (m.length : Int) := by omega
   have cs := I.S k hlt
   obtain ⟨X, hX⟩ : ∃ X : ByteArray, X = ⟨m[k].toArray⟩ := ⟨_, rfl⟩
   have hXl : X.data.toList = m[k] := by rw [hX]
   have hXs : X.data.toList.length ≤ 300 := by rw [hXl]; exact Hmp.out m[k] (List.getElem_mem hlt)
   have hXz : X.data.toList.length = X.size := by simp
   rw [← hX] at cs
   have HS2 := Lib.hid (ref_split X (by omega) 58 wr)
   obtain ⟨P, hP⟩ : ∃ P, P = partS 58 X.data.toList := ⟨_, rfl⟩
   rw [← hP] at HS2
   have hPl : ∀ p ∈ P, p.length ≤ 300 := fun p hp => by have := (partS_mem 58 X.data.toList p (hP ▸ hp)).1; omega
   have ha : archS m[k] = archP P := by rw [archP_eq, ← hXl, hP]
   have hPP := partS_len 58 X.data.toList
   rw [← hP] at hPP
   have hPi : (P.length : Int) ≤ 301 := by omega
   have HI := Lib.hid I
   have Ha := Lib.hid (And.intro ha hPl)
   have HNO : Hid (archP P = none → retS s.data.toList = none) := Lib.hid (fun e => by rw [Hret.out, archsS_none m k hlt (ha.trans e)])
   clear I hX hXl hXs hXz hP hPl ha hPP
   by_cases h2 : P.length = 2
   rotate_left
   ·
    have hne : ((P.length : Int) == 2) = false := beq_eq_false_iff_ne.2 (by omega)
    have hne2 : ((P.length : Int) != 2) = true := by rw [bne, hne]; rfl
    have HN : Hid (retS s.data.toList = none) := Lib.hid (HNO.out (archP_ne h2))
    clear h2
    go_wp2_with (go_at_call 27; refine HS2.out.mono ?_; rintro e w2 ⟨b2, cp2, rfl, hb20, hb2, hS2, g2⟩; have G2 := Lib.hid g2; clear g2)
    go_ret2
    exact RetG.none' HN.out (HI.out.gr.trans G2.out)
   ·
    obtain ⟨pa, pb, rfl⟩ : ∃ pa pb, P = [pa, pb] := by
     match P, h2 with
     | [x, y], _ => exact ⟨x, y, rfl⟩
    obtain ⟨A, hA⟩ : ∃ A : ByteArray, A = ⟨pa.toArray⟩ := ⟨_, rfl⟩
    obtain ⟨B, hB⟩ : ∃ B : ByteArray, B = ⟨pb.toArray⟩ := ⟨_, rfl⟩
    have hAl : A.data.toList = pa := by rw [hA]
    have hBl : B.data.toList = pb := by rw [hB]
    have hAs : (A.size : Int) ≤ 4096 := by
     have h1 := Ha.out.2 pa (by simp)
     have h3 : A.data.toList.length = A.size := by simp
     rw [hAl] at h3; omega
    have hBs : (B.size : Int) ≤ 4096 := by
     have h1 := Ha.out.2 pb (by simp)
     have h3 : B.data.toList.length = B.size := by simp
     rw [hBl] at h3; omega
    have HPA := Lib.hid (ref_plain A hAs)
    have HPB := Lib.hid (ref_plain B hBs)
    have hlA := fun n z (h : unsS A.data.toList = some (n, z)) => unsS_le h
    have hlB := fun n z (h : unsS B.data.toList = some (n, z)) => unsS_le h
    have hax : archP [pa, pb] = match unsS A.data.toList, unsS B.data.toList with
     | some (step, _), some (n, long) => bif step == 0 then none else some (step, bif long then n / step else n)
     | _, _ => none := by rw [hAl, hBl]; rfl
    have HST : Hid (∀ W g, Strs W g [pa, pb] → W.cell? ⟨g, 0, none⟩ = some (.string A) ∧ W.cell? ⟨g, 1, none⟩ = some (.string B)) := Lib.hid fun W g h => ⟨by rw [hA]; exact h 0 (by simp), by rw [hB]; exact h 1 (by simp)⟩
    clear hA hB hAl hBl hAs hBs h2
    cases hA : unsS A.data.toList with
    | none =>
     rw [hA] at HPA
     have HN : Hid (retS s.data.toList = none) := Lib.hid (HNO.out (by rw [hax, hA]))
     clear hax hlA hlB hA
     go_upto_region 11 with (go_at_call 27; refine HS2.out.mono ?_; rintro e w2 ⟨b2, cp2, rfl, hb20, hb2, hS2, g2⟩)
     obtain ⟨s0, s1⟩ := HST.out w2 b2 hS2
     have HI2 := Lib.hid (HI.out.gr' HB.out g2)
     clear hb20 hS2 g2 cs
     go_upto_region 12 with (go_at_call 65; refine (HPA.out _).mono ?_; rintro e w3 h3; obtain ⟨z3, rfl, g3⟩ := h3)
     have s1' := (Below.cell g3 (p := ⟨b2, 1, none⟩) hb2).trans s1
     have HI3 := Lib.hid (HI2.out.gr' HB.out g3)
     clear s0 s1 hb2 g3
     have s1 := s1'
     clear s1'
     go_upto_region 13 with (go_at_call 65; refine (HPB.out _).mono ?_; rintro e w4 h4; obtain ⟨n4, z4, o4, rfl, g4⟩ := h4.weak; clear h4)
     have HI4 := Lib.hid (HI3.out.gr' HB.out g4)
     clear s1 g4
     go_wp2
     go_ret2
     exact RetG.none' HN.out HI4.out.gr
    | some xa =>
     obtain ⟨a, za⟩ := xa
     have ha1 := hlA a za hA
     have hai : (a : Int) ≤ 4611686018427387904 := by unfold maxN at ha1; omega
     rw [hA] at HPA hax
     clear hA hlA ha1
     cases hB : unsS B.data.toList with
     | none =>
      rw [hB] at HPB
      have HN : Hid (retS s.data.toList = none) := Lib.hid (HNO.out (by rw [hax, hB]))
      clear hax hlB hB
      go_upto_region 11 with (go_at_call 27; refine HS2.out.mono ?_; rintro e w2 ⟨b2, cp2, rfl, hb20, hb2, hS2, g2⟩)
      obtain ⟨s0, s1⟩ := HST.out w2 b2 hS2
      have HI2 := Lib.hid (HI.out.gr' HB.out g2)
      clear hb20 hS2 g2 cs
      go_upto_region 12 with (go_at_call 65; refine (HPA.out _).mono ?_; rintro e w3 h3; obtain ⟨rfl, g3⟩ := h3)
      have s1' := (Below.cell g3 (p := ⟨b2, 1, none⟩) hb2).trans s1
      have HI3 := Lib.hid (HI2.out.gr' HB.out g3)
      clear s0 s1 hb2 g3
      have s1 := s1'
      clear s1'
      go_upto_region 13 with (go_at_call 65; refine (HPB.out _).mono ?_; rintro e w4 h4; obtain ⟨z4, rfl, g4⟩ := h4)
      have HI4 := Lib.hid (HI3.out.gr' HB.out g4)
      clear s1 g4
      go_wp2
      go_ret2
      exact RetG.none' HN.out HI4.out.gr
     | some xb =>
      obtain ⟨n, long⟩ := xb
      have hb1 := hlB n long hB
      have hbi : (n : Int) ≤ 4611686018427387904 := by unfold maxN at hb1; omega
      rw [hB] at HPB hax
      simp only at hax
      clear hB hlB hb1
      by_cases h0 : a = 0
      ·
       subst h0
       have HN : Hid (retS s.data.toList = none) := Lib.hid (HNO.out (by rw [hax]; rfl))
       clear hax
       go_upto_region 11 with (go_at_call 27; refine HS2.out.mono ?_; rintro e w2 ⟨b2, cp2, rfl, hb20, hb2, hS2, g2⟩)
       obtain ⟨s0, s1⟩ := HST.out w2 b2 hS2
       have HI2 := Lib.hid (HI.out.gr' HB.out g2)
       clear hb20 hS2 g2 cs
       go_upto_region 12 with (go_at_call 65; refine (HPA.out _).mono ?_; rintro e w3 h3; obtain ⟨rfl, g3⟩ := h3)
       have s1' := (Below.cell g3 (p := ⟨b2, 1, none⟩) hb2).trans s1
       have HI3 := Lib.hid (HI2.out.gr' HB.out g3)
       clear s0 s1 hb2 g3
       have s1 := s1'
       clear s1'
       go_upto_region 13 with (go_at_call 65; refine (HPB.out _).mono ?_; rintro e w4 h4; obtain ⟨rfl, g4⟩ := h4)
       have HI4 := Lib.hid (HI3.out.gr' HB.out g4)
       clear s1 g4
       go_wp2
       go_ret2
       exact RetG.none' HN.out HI4.out.gr
      ·
       have hne : (a == 0) = false := beq_eq_false_iff_ne.2 h0
       have hal : ¬ (a : Int) < 1 := by omega
       have ha0 : ¬ (a : Int) = 0 := by omega
       rw [hne, cond_false] at hax
       cases long with
       | false =>
        have HAR : Hid (archS m[k] = some (a, n)) := Lib.hid (by rw [Ha.out.1, hax]; rfl)
        clear hax hne h0
        go_upto_region 11 with (go_at_call 27; refine HS2.out.mono ?_; rintro e w2 ⟨b2, cp2, rfl, hb20, hb2, hS2, g2⟩)
        obtain ⟨s0, s1⟩ := HST.out w2 b2 hS2
        have HI2 := Lib.hid (HI.out.gr' HB.out g2)
        clear hb20 hS2 g2 cs
        go_upto_region 12 with (go_at_call 65; refine (HPA.out _).mono ?_; rintro e w3 h3; obtain ⟨rfl, g3⟩ := h3)
        have s1' := (Below.cell g3 (p := ⟨b2, 1, none⟩) hb2).trans s1
        have HI3 := Lib.hid (HI2.out.gr' HB.out g3)
        clear s0 s1 hb2 g3
        have s1 := s1'
        clear s1'
        go_upto_region 13 with (go_at_call 65; refine (HPB.out _).mono ?_; rintro e w4 h4; obtain ⟨rfl, g4⟩ := h4)
        have HI4 := Lib.hid (HI3.out.gr' HB.out g4)
        clear s1 g4
        obtain ⟨A4, c4, hv⟩ := own_form HI4.out.own
        subst hv
        have hv0 := own_grU HI4.out.own (Gr.alloc (Gr.refl w4) (.cells #[.int .i64 a, .int .i64 n] 34))
        have hvl := HI4.out.own.lt
        have hrx : Rd (w4.alloc (.cells #[.int .i64 a, .int .i64 n] 34)) 2 (some ⟨w4.heap.size, 0, none⟩) 1 (acells [(a, n)]) := Rd.newU (W := w4) rfl 34 (acells [(a, n)]) rfl
        have c2 := HI4.out.c2
        have hsz4 := HI4.out.sz
        have hzw : w.heap.size < w4.heap.size := Nat.lt_of_lt_of_le hh hsz4
        go_wp2_with (at_builtin; refine wpList_append_rd rfl (.tmp 65) (.tmp 69) 27 rfl w1.heap.size 34 i0 _ 2 16 Tryz.underlying27 hi hz0 hz1 hz2 rfl (by decide) _ _ _ rfl hv0 (some ⟨w4.heap.size, 0, none⟩) 1 _ (acells [(a, n)]) rfl hrx (acells_one _) (by unfold maxLen; omega) (by omega) (by simp; omega) ?_; intro v' w5 hown2 hgr2 hat2; obtain ⟨A5, c5, hv5⟩ := own_form hown2; subst hv5; obtain ⟨c2b, f2b⟩ := HI4.out.mid HB.out hgr2; have HP := Lib.hid (HI4.out.put HB.out (Nat.le_refl _) hlt HAR.out hown2 hgr2); clear hv0 hvl hgr2 hat2 hrx hown2 c2)
        go_roundw
        case rel => exact ⟨k + 1, _, _, by omega, by go_num, HP.out⟩
        case measure => simp [intOf]; omega
       | true =>
        have HAR : Hid (archS m[k] = some (a, n / a)) := Lib.hid (by rw [Ha.out.1, hax]; rfl)
        have hwd : wrap64 ((n : Int) / (a : Int)) = (n : Int) / (a : Int) := by
         have h1 := Nat.div_le_self n a
         rw [← Int.natCast_ediv]
         generalize n / a = q at *
         exact IntWalk.wrap64_in (q : Int) (by omega)
        clear hax hne h0
        go_upto_region 11 with (go_at_call 27; refine HS2.out.mono ?_; rintro e w2 ⟨b2, cp2, rfl, hb20, hb2, hS2, g2⟩)
        obtain ⟨s0, s1⟩ := HST.out w2 b2 hS2
        have HI2 := Lib.hid (HI.out.gr' HB.out g2)
        clear hb20 hS2 g2 cs
        go_upto_region 12 with (go_at_call 65; refine (HPA.out _).mono ?_; rintro e w3 h3; obtain ⟨rfl, g3⟩ := h3)
        have s1' := (Below.cell g3 (p := ⟨b2, 1, none⟩) hb2).trans s1
        have HI3 := Lib.hid (HI2.out.gr' HB.out g3)
        clear s0 s1 hb2 g3
        have s1 := s1'
        clear s1'
        go_upto_region 13 with (go_at_call 65; refine (HPB.out _).mono ?_; rintro e w4 h4; obtain ⟨rfl, g4⟩ := h4)
        have HI4 := Lib.hid (HI3.out.gr' HB.out g4)
        clear s1 g4
        obtain ⟨A4, c4, hv⟩ := own_form HI4.out.own
        subst hv
        have hv0 := own_grU HI4.out.own (Gr.alloc (Gr.refl w4) (.cells #[.int .i64 a, .int .i64 (n / a : Nat)] 34))
        have hvl := HI4.out.own.lt
        have hrx : Rd (w4.alloc (.cells #[.int .i64 a, .int .i64 (n / a : Nat)] 34)) 2 (some ⟨w4.heap.size, 0, none⟩) 1 (acells [(a, (n / a : Nat))]) := Rd.newU (W := w4) rfl 34 (acells [(a, (n / a : Nat))]) rfl
        have c2 := HI4.out.c2
        have hsz4 := HI4.out.sz
        have hzw : w.heap.size < w4.heap.size := Nat.lt_of_lt_of_le hh hsz4
        go_wp2_with (at_builtin; refine wpList_append_rd rfl (.tmp 65) (.tmp 69) 27 rfl w1.heap.size 34 i0 _ 2 16 Tryz.underlying27 hi hz0 hz1 hz2 rfl (by decide) _ _ _ rfl hv0 (some ⟨w4.heap.size, 0, none⟩) 1 _ (acells [(a, (n / a : Nat))]) rfl hrx (acells_one _) (by unfold maxLen; omega) (by omega) (by simp; omega) ?_; intro v' w5 hown2 hgr2 hat2; obtain ⟨A5, c5, hv5⟩ := own_form hown2; subst hv5; obtain ⟨c2b, f2b⟩ := HI4.out.mid HB.out hgr2; have HP := Lib.hid (HI4.out.put HB.out (Nat.le_refl _) hlt HAR.out hown2 hgr2); clear hv0 hvl hgr2 hat2 hrx hown2 c2)
        go_roundw
        case rel => exact ⟨k + 1, _, _, by omega, by go_num, HP.out⟩
        case measure => simp [intOf]; omega
  ·
   have hkk : k = m.length := by omega
   subst hkk
   obtain ⟨A, c, hv⟩ := own_form I.own
   subst hv
   have hr := Ra.own I.own
   have hjl := I.J.len
   have hC := fun W hW => ref_may A c l (I.J.le (Nat.le_refl _)) (by omega) W hW
   rw [hjl] at hC
   obtain ⟨c0, c1, c2⟩ := And.intro I.c0 (And.intro I.c1 I.c2)
   have HI := Lib.hid I
   have Hr := Lib.hid hr
   have HC := Lib.hid (hC wr hr)
   have hzw : w.heap.size < wr.heap.size := Nat.lt_of_lt_of_le hh I.sz
   clear hC hr I
   cases hM : mayS l with
   | false =>
    have HN : Hid (retS s.data.toList = none) := Lib.hid (by rw [Hret.out, HI.out.J.done]; simp only [hM]; rfl)
    rw [hM] at HC
    clear hM
    go_wp2_with (go_at_call 66; refine HC.out.mono ?_; rintro e w2 ⟨rfl, g2⟩; have G2 := Lib.hid g2; clear g2)
    go_ret2
    exact RetG.none' HN.out (HI.out.gr.trans G2.out)
   | true =>
    have HN : Hid (retS s.data.toList = some l) := Lib.hid (by rw [Hret.out, HI.out.J.done]; simp only [hM]; rfl)
    rw [hM] at HC
    clear hM
    go_wp2_with (go_at_call 66; refine HC.out.mono ?_; rintro e w2 ⟨rfl, g2⟩; have G2 := Lib.hid g2; have c2b := (Below.cell g2 (p := ⟨w.heap.size, 2, none⟩) hzw).trans c2; clear g2 c0 c1 c2)
    go_ret2
    rw [← HI.out.J.len]
    exact RetG.some' HN.out (Hr.out.gr G2.out) (HI.out.gr.trans G2.out)
end Go.Proofs.YtjapddfnpmlifaaGreatDoor
namespace Go.Proofs.YtjapddfnpmlifaaGreatDoor
set_option linter.unusedVariables false
set_option linter.unusedSimpArgs false
open Go.RowKit

set_option maxRecDepth 100000 in
set_option maxHeartbeats 6400000 in
theorem archives_same (A B : Option Addr) (c d : Nat) (l : List (Nat × Nat)) (hl : (l.length : Int) ≤ 1000) (hn : ∀ a ∈ l, a.1 ≤ maxN ∧ a.2 ≤ maxN) (w : World) (ha : Ra w A l) (hb : Ra w B l) : Calls Tryz.prog 14 #[.slice A l.length c, .slice B l.length d] w fun e w' => e = .returned (.bool true) ∧ Gr w w' := by
 have HA := Lib.hid ha
 have HB := Lib.hid hb
 clear ha hb hn
 go_enter Tryz.func14, Tryz.ntmps14
 go_wp2
 go_loopw [5] (fun i wr => ∃ k : Nat, k ≤ l.length ∧ i = .int .i64 k ∧ Gr w wr) (fun i _ => l.length - (intOf i).toNat)
 case atStart => exact ⟨0, Nat.zero_le _, rfl, Gr.refl _⟩
 case round =>
  obtain ⟨k, hk, rfl, hgr⟩ := hrel
  have G := Lib.hid hgr
  by_cases hlt : k < l.length
  ·
   have hki : (k : Int) < (l.length : Int) := by omega
   obtain ⟨b, rfl, hb, hc⟩ := (HA.out.gr hgr) (by omega)
   obtain ⟨b', rfl, hb', hc'⟩ := (HB.out.gr hgr) (by omega)
   obtain ⟨d0, d1⟩ := hc k hlt
   obtain ⟨e0, e1⟩ := hc' k hlt
   generalize l[k].1 = x1 at *
   generalize l[k].2 = x2 at *
   clear hc hc' hgr
   go_upto_region 6 with (fail)
   refine region_Q (by kernel_rfl) (by kernel_rfl) ?_
   iterate 3 (refine q_val (v := ?_) (by rfl) (fun W hW => ?_) ?_; rotate_left; (focus go_simp; rfl); simp only [Pu])
   refine q_val (v := ?qv4) (by rfl) (fun W hW => ?qh4) ?qr4
   case qh4 => have g := (Below.cell hW (p := ⟨b, k * 2, none⟩) hb).trans d0; have g2 := (Below.cell hW (p := ⟨b, k * 2 + 1, none⟩) hb).trans d1; go_simp; rfl
   simp only [Pu]
   iterate 3 (refine q_val (v := ?_) (by rfl) (fun W hW => ?_) ?_; rotate_left; (focus go_simp; rfl); simp only [Pu])
   refine q_val (v := ?qv8) (by rfl) (fun W hW => ?qh8) ?qr8
   case qh8 => have g := (Below.cell hW (p := ⟨b', k * 2, none⟩) hb').trans e0; have g2 := (Below.cell hW (p := ⟨b', k * 2 + 1, none⟩) hb').trans e1; go_simp; rfl
   simp only [Pu]
   refine q_val (v := ?_) (by rfl) (fun W hW => ?_) ?_; rotate_left; (focus go_simp; rfl); simp only [Pu]
   refine wpQuiet_nil ?_
   intro w8 hw8
   have G8 := Lib.hid hw8
   clear hw8 d0 d1 e0 e1
   go_wp2
   go_roundw
   case rel => exact ⟨k + 1, by omega, by go_num, G.out.trans G8.out⟩
   case measure => simp [intOf]; omega
  ·
   have hkk : k = l.length := by omega
   subst hkk
   clear hgr
   go_wp2
   go_ret
   exact ⟨rfl, G.out⟩
theorem Ra.two (w : World) (x y : Nat × Nat) : Ra (w.alloc (.cells #[.int .i64 (x.1 : Nat), .int .i64 (x.2 : Nat), .int .i64 (y.1 : Nat), .int .i64 (y.2 : Nat)] 34)) (some ⟨w.heap.size, 0, none⟩) [x, y] := fun _ => by
 refine ⟨w.heap.size, rfl, by simp, fun k hk => ?_⟩
 match k, hk with
 | 0, _ => constructor <;> go_simp
 | 1, _ => constructor <;> go_simp
set_option maxRecDepth 100000 in
set_option maxHeartbeats 6400000 in
theorem known25_any (w : World) (hm : Ml w) : Calls Tryz.prog 9 #[] w fun e w' => e = .returned (.bool true) ∧ Gr w w' := by
 have HR := rules_Retentions ⟨#[49, 48, 115, 58, 49, 109, 105, 110, 44, 49, 109, 105, 110, 58, 49, 104]⟩ (by decide) w hm
 have hk : retS (⟨#[49, 48, 115, 58, 49, 109, 105, 110, 44, 49, 109, 105, 110, 58, 49, 104]⟩ : ByteArray).data.toList = some [(10, 6), (60, 60)] := known_25
 rw [hk] at HR
 have HRR := Lib.hid HR
 clear HR hk hm
 go_enter Tryz.func9, Tryz.ntmps9
 go_upto_region 2 with (go_at_call 26; refine HRR.out.mono ?_; rintro e w1 ⟨A, c, rfl, hr, g1⟩; simp only [Option.getD_some, Option.isSome_some, if_true, List.length_cons, List.length_nil, Nat.zero_add])
 have HA := Lib.hid (archives_same A (some ⟨w1.heap.size, 0, none⟩) c 2 [(10, 6), (60, 60)] (by decide) (by decide) (w1.alloc (.cells #[.int .i64 ((10 : Nat) : Int), .int .i64 ((6 : Nat) : Int), .int .i64 ((60 : Nat) : Int), .int .i64 ((60 : Nat) : Int)] 34)) (hr.gr (Gr.alloc (Gr.refl _) _)) (Ra.two w1 (10, 6) (60, 60)))
 have G1 := Lib.hid g1
 clear hr g1 HRR
 go_wp2_with (go_at_call 14; refine HA.out.mono ?_; rintro e w2 ⟨rfl, g2⟩; have G2 := Lib.hid g2; clear g2)
 go_ret
 exact ⟨rfl, (G1.out.trans (Gr.alloc (Gr.refl _) _)).trans G2.out⟩
theorem retS_le {l : List UInt8} {m : List (Nat × Nat)} (h : retS l = some m) : m.length ≤ 8 ∧ ∀ a ∈ m, a.1 ≤ maxN ∧ a.2 ≤ maxN := by
 unfold retS at h
 cases ha : archsS (partS 44 l) with
 | none => rw [ha] at h; cases h
 | some r =>
  rw [ha] at h
  simp only at h
  cases hM : mayS r
  ·
   rw [hM] at h; cases h
  ·
   rw [hM] at h
   simp only [cond_true, Option.some.injEq] at h
   subst h
   have h1 := hM
   rw [mayS_eq] at h1
   simp only [Bool.and_eq_true, Nat.ble_eq] at h1
   refine ⟨h1.1.1.1, fun a ha' => ?_⟩
   obtain ⟨j, hj, rfl⟩ := List.mem_iff_getElem.1 ha'
   have := ((steps_iff r).1 h1.1.1.2).2 j hj
   rw [stepOk_at hj, Bool.and_eq_true] at this
   have := oneOk_iff.1 this.1
   unfold maxN
   omega
end Go.Proofs.YtjapddfnpmlifaaGreatDoor
namespace Go.Proofs.YtjapddfnpmlifaaGreatDoor
set_option linter.unusedVariables false
set_option linter.unusedSimpArgs false
open Go.RowKit

/-- A set of bytes, asked below 256 alone. -/
abbrev Bs := Nat → Bool
def oneB (c : Nat) : Bs := fun i => i == c
def runB (a b : Nat) : Bs := fun i => Nat.ble a i && Nat.ble i b
def orB (f g : Bs) : Bs := fun i => f i || g i
def notB (f : Bs) : Bs := fun i => !f i
def noB : Bs := fun _ => false
def digB : Bs := runB 48 57
def wordB : Bs := orB (orB (orB digB (runB 97 122)) (runB 65 90)) (runB 95 95)
def spB : Bs := orB (runB 9 13) (runB 32 32)
/-- one of the six sets. -/
def namedB (c : Nat) : Option Bs :=
 bif c == 100 then some digB else bif c == 68 then some (notB digB) else
 bif c == 119 then some wordB else bif c == 87 then some (notB wordB) else
 bif c == 115 then some spB else bif c == 83 then some (notB spB) else none
def isWordB (c : Nat) : Bool := wordB c && !(c == 95)

/-- the runs of the first k bytes. -/
def pairsT (f : Bs) : Nat → List UInt8
 | 0 => []
 | k + 1 => pairsT f k ++ ((bif f k && (k == 0 || !f (k - 1)) then [UInt8.ofNat k] else []) ++ (bif f k && (k == 255 || !f (k + 1)) then [UInt8.ofNat k] else []))
def pairsS (f : Bs) : List UInt8 := pairsT f 256

/-- An instruction. -/
structure In where
 op : Int
 x : Int
 y : Int
 ps : List UInt8
deriving DecidableEq

mutual
/-- A piece of an expression. -/
inductive Pc where
 | leaf (op : Nat) (ps : List UInt8) : Pc
 | row (l : PcL) : Pc
 | ways (l : PcL) : Pc
 | group (g : Nat) (k : Pc) : Pc
 | rep (op : Nat) (lazy_ : Bool) (k : Pc) : Pc
inductive PcL where
 | nil : PcL
 | cons (p : Pc) (l : PcL) : PcL
end

def PcL.toList : PcL → List Pc
 | .nil => []
 | .cons p l => p :: l.toList
def PcL.ofList : List Pc → PcL
 | [] => .nil
 | p :: l => .cons p (.ofList l)
theorem PcL.to_of (l : List Pc) : (PcL.ofList l).toList = l := by
 induction l with
 | nil => rfl
 | cons p l ih => simp [PcL.ofList, PcL.toList, ih]

mutual
/-- how many instructions. -/
def Pc.sz : Pc → Nat
 | .leaf _ _ => 1
 | .row l => l.szR
 | .ways l => l.szW
 | .group g k => bif g == 0 then k.sz else k.sz + 2
 | .rep op _ k => bif op == 42 then k.sz + 2 else k.sz + 1
def PcL.szR : PcL → Nat
 | .nil => 0
 | .cons p l => p.sz + l.szR
def PcL.szW : PcL → Nat
 | .nil => 0
 | .cons p .nil => p.sz
 | .cons p (.cons q l) => p.sz + 2 + (PcL.cons q l).szW
end

def splitI (z : Bool) (x y : Int) : In := bif z then ⟨2, y, x, []⟩ else ⟨2, x, y, []⟩
mutual
/-- the instructions of a piece whose first one lies at a place. -/
def Pc.lay : Pc → Nat → List In
 | .leaf op ps, _ => [⟨op, 0, 0, ps⟩]
 | .row l, at_ => l.layR at_
 | .ways l, at_ => l.layW at_ (at_ + l.szW)
 | .group g k, at_ => bif g == 0 then k.lay at_ else ⟨4, 2 * g, 0, []⟩ :: (k.lay (at_ + 1) ++ [⟨4, 2 * g + 1, 0, []⟩])
 | .rep op z k, at_ =>
  bif op == 42 then splitI z (at_ + 1) (at_ + k.sz + 2) :: (k.lay (at_ + 1) ++ [⟨3, at_, 0, []⟩])
  else bif op == 43 then k.lay at_ ++ [splitI z at_ (at_ + k.sz + 1)]
  else splitI z (at_ + 1) (at_ + k.sz + 1) :: k.lay (at_ + 1)
def PcL.layR : PcL → Nat → List In
 | .nil, _ => []
 | .cons p l, at_ => p.lay at_ ++ l.layR (at_ + p.sz)
def PcL.layW : PcL → Nat → Nat → List In
 | .nil, _, _ => []
 | .cons p .nil, at_, _ => p.lay at_
 | .cons p (.cons q l), at_, e => ⟨2, at_ + 1, at_ + p.sz + 2, []⟩ :: (p.lay (at_ + 1) ++ (⟨3, e, 0, []⟩ :: (PcL.cons q l).layW (at_ + p.sz + 2) e))
end

/-- How far an expression is read: what is left of it, how many groups there are, how deep it is, whether it is none, whether it is too deep. -/
structure Rs where
 rest : List UInt8
 groups : Nat
 deep : Nat
 bad : Bool
 over : Bool

def headIs (c : Nat) : List UInt8 → Bool
 | [] => false
 | x :: _ => x.toNat == c
/-- what stands behind a stroke. -/
def escS : List UInt8 → Option Bs × List UInt8
 | [] => (none, [])
 | c :: r => match namedB c.toNat with
  | some f => (some f, r)
  | none => (bif isWordB c.toNat then none else some (oneB c.toNat), r)
def isNamed (c : Nat) : Bool := (namedB c).isSome
/-- a byte of a class, or one of the six. -/
def sideS : List UInt8 → Option (Bs × Nat × Bool) × List UInt8
 | [] => (none, [])
 | c :: r => bif c.toNat == 92 then (match r with
   | [] => (none, [])
   | d :: q => match escS (d :: q) with
    | (some f, _) => (some (f, d.toNat, isNamed d.toNat), q)
    | (none, _) => (none, q))
  else (some (oneB c.toNat, c.toNat, false), r)
def rangesS : List UInt8 → Bool
 | h :: d :: r => h.toNat == 45 && !(d.toNat == 93) && (!(d.toNat == 92) || (match r with | [] => true | e :: _ => !isNamed e.toNat))
 | _ => false
def clsS : Nat → Bool → Bs → List UInt8 → Option Bs × List UInt8
 | 0, _, _, r => (none, r)
 | k + 1, first, all, r =>
  bif first || !headIs 93 r then
   match sideS r with
   | (none, q) => (none, q)
   | (some (f, a, wide), q) =>
    bif !wide && rangesS q then
     match sideS (q.drop 1) with
     | (none, t) => (none, t)
     | (some (_, b, _), t) => bif Nat.blt b a then (none, t) else clsS k false (orB all (orB f (runB a b))) t
    else clsS k false (orB all f) q
  else (some all, r.drop 1)
def classS (r : List UInt8) : Option Bs × List UInt8 :=
 bif headIs 94 r then (match clsS r.length true noB (r.drop 1) with | (some f, q) => (some (notB f), q) | (none, q) => (none, q))
 else clsS (r.length + 1) true noB r

def failS (s : Rs) : Pc × Rs := (.row .nil, { s with bad := true })
def setS (s : Rs) (x : Option Bs × List UInt8) : Pc × Rs :=
 match x with
 | (some f, q) => (.leaf 1 (pairsS f), { s with rest := q })
 | (none, q) => failS { s with rest := q }
def openS (s : Rs) : Nat × Rs :=
 bif headIs 63 s.rest && headIs 58 (s.rest.drop 1) then (0, { s with rest := s.rest.drop 2 }) else (s.groups + 1, { s with groups := s.groups + 1 })
def groupS (W : Rs → Pc × Rs) (s : Rs) : Pc × Rs :=
 bif Nat.ble 64 s.deep then failS { s with deep := s.deep + 1, over := true }
 else
  let r := W (openS { s with deep := s.deep + 1 }).2
  bif r.2.bad || !headIs 41 r.2.rest then failS r.2
  else (.group (openS { s with deep := s.deep + 1 }).1 r.1, { r.2 with rest := r.2.rest.drop 1, deep := r.2.deep - 1 })
def stopC (c : Nat) : Bool := c == 124 || (c == 63 || (c == 42 || (c == 43 || c == 41)))
def atomS (W : Rs → Pc × Rs) (s : Rs) : Pc × Rs :=
 match s.rest with
 | [] => failS s
 | c :: r =>
  bif c.toNat == 40 then groupS W { s with rest := r }
  else bif c.toNat == 94 then (.leaf 5 [], { s with rest := r })
  else bif c.toNat == 36 then (.leaf 6 [], { s with rest := r })
  else bif c.toNat == 46 then (.leaf 1 (pairsS (notB (oneB 10))), { s with rest := r })
  else bif c.toNat == 91 then setS s (classS r)
  else bif c.toNat == 92 then setS s (escS r)
  else bif stopC c.toNat then failS { s with rest := r }
  else (.leaf 1 (pairsS (oneB c.toNat)), { s with rest := r })
def repC (c : Nat) : Bool := c == 42 || (c == 43 || c == 63)
def pieceS (W : Rs → Pc × Rs) (s : Rs) : Pc × Rs :=
 let r := atomS W s
 bif r.2.bad then r else
 match r.2.rest with
 | [] => r
 | c :: q => bif repC c.toNat then (.rep c.toNat (headIs 63 q) r.1, { r.2 with rest := bif headIs 63 q then q.drop 1 else q }) else r
def endR (r : List UInt8) : Bool := match r with | [] => true | c :: _ => c.toNat == 124 || c.toNat == 41
def rowS (W : Rs → Pc × Rs) : Nat → Rs → PcL × Rs
 | 0, s => (.nil, s)
 | k + 1, s => bif s.bad || endR s.rest then (.nil, s) else
  let r := pieceS W s
  let q := rowS W k r.2
  (.cons r.1 q.1, q.2)
def rowP (W : Rs → Pc × Rs) (s : Rs) : Pc × Rs := (.row (rowS W (s.rest.length + 1) s).1, (rowS W (s.rest.length + 1) s).2)
/-- ways, parted by strokes. -/
def altS (W : Rs → Pc × Rs) : Nat → Rs → PcL × Rs
 | 0, s => (.nil, s)
 | k + 1, s =>
  let r := rowP W s
  bif !r.2.bad && headIs 124 r.2.rest then
   let q := altS W k { r.2 with rest := r.2.rest.drop 1 }
   (.cons r.1 q.1, q.2)
  else (.cons r.1 .nil, r.2)
def lone : PcL → Pc
 | .cons p .nil => p
 | l => .ways l
def waysS : Nat → Rs → Pc × Rs
 | 0, s => failS s
 | n + 1, s => (lone (altS (waysS n) (s.rest.length + 1) s).1, (altS (waysS n) (s.rest.length + 1) s).2)
def readS (s : List UInt8) : Pc × Rs := waysS (s.length + 1) ⟨s, 0, 0, false, false⟩
/-- the error of an expression of fewer than 500 bytes; 0: none. -/
def errX (s : List UInt8) : Int :=
 bif (readS s).2.over then 12 else bif (readS s).2.bad || !(readS s).2.rest.isEmpty then 8 else 0
def codeX (s : List UInt8) : List In := ⟨4, 0, 0, []⟩ :: ((readS s).1.lay 1 ++ [⟨4, 1, 0, []⟩, ⟨7, 0, 0, []⟩])

-- a look
theorem known_a : codeX [97, 43] = [⟨4, 0, 0, []⟩, ⟨1, 0, 0, [97, 97]⟩, ⟨2, 1, 3, []⟩, ⟨4, 1, 0, []⟩, ⟨7, 0, 0, []⟩] ∧ errX [97, 43] = 0 := ⟨by kernel_rfl, by kernel_rfl⟩
end Go.Proofs.YtjapddfnpmlifaaGreatDoor
namespace Go.Proofs.YtjapddfnpmlifaaGreatDoor
set_option linter.unusedVariables false
set_option linter.unusedSimpArgs false
open Go.RowKit

/-- all that was there, but block R, is as it was. -/
structure GX (R : Nat) (w w' : World) : Prop where
 os : w'.os = w.os
 tape : w'.tape = w.tape
 output : w'.output = w.output
 size : w.heap.size ≤ w'.heap.size
 block : ∀ k, k < w.heap.size → k ≠ R → w'.heap[k]? = w.heap[k]?
theorem GX.refl (R : Nat) (w : World) : GX R w w := ⟨rfl, rfl, rfl, Nat.le_refl _, fun _ _ _ => rfl⟩
theorem GX.trans {R : Nat} {a b c : World} (h : GX R a b) (k : GX R b c) : GX R a c :=
 ⟨k.os.trans h.os, k.tape.trans h.tape, k.output.trans h.output, Nat.le_trans h.size k.size, fun i hi hn => (k.block i (Nat.lt_of_lt_of_le hi h.size) hn).trans (h.block i hi hn)⟩
theorem GX.of_gr {R : Nat} {w w' : World} (h : Gr w w') : GX R w w' := ⟨h.os, h.tape, h.output, h.size, fun k hk _ => Below.block h k hk⟩
theorem GX.alloc {R : Nat} {a w : World} (h : GX R a w) (o : Obj) : GX R a (w.alloc o) := h.trans (GX.of_gr (Gr.alloc (Gr.refl w) o))
theorem GX.drew {R : Nat} {a w : World} (h : GX R a w) : GX R a w.drew := h.trans (GX.of_gr (Gr.drew (Gr.refl w)))
theorem GX.drewN {R : Nat} {a w : World} (h : GX R a w) (n : Nat) : GX R a (w.drewN n) := ⟨h.os, h.tape, h.output, h.size, h.block⟩
theorem GX.setCell {R : Nat} {a w : World} (h : GX R a w) {p : Addr} (hp : p.block = R ∨ a.heap.size ≤ p.block) (u : Value) : GX R a (w.setCell p u) :=
 ⟨h.os, h.tape, h.output, Nat.le_trans h.size (by simp [World.setCell]), fun k hk hn => (Below.heap_setCell _ _ _ _ (by omega)).trans (h.block k hk hn)⟩
theorem GX.gr {R : Nat} {a w w' : World} (h : Gr a w) (g : GX R w w') (hR : a.heap.size ≤ R) : Gr a w' :=
 ⟨g.os.trans h.os, g.tape.trans h.tape, g.output.trans h.output, Nat.le_trans h.size g.size, fun k hk => (g.block k (Nat.lt_of_lt_of_le hk h.size) (by omega)).trans (h.block k hk)⟩
theorem GX.cell {R : Nat} {w w' : World} (h : GX R w w') {p : Addr} (hp : p.block < w.heap.size) (hn : p.block ≠ R) : w'.cell? p = w.cell? p := World.cell?_of_block (h.block _ hp hn)
theorem GX.frozen {R : Nat} {w w' : World} (h : GX R w w') {p : Addr} (hp : p.block < w.heap.size) (hn : p.block ≠ R) : w'.frozen? p = w.frozen? p := World.frozen?_of_block (h.block _ hp hn)
theorem GX.cells {R : Nat} {W w1 : World} (hb : GX R W w1) : (∀ b o, b < W.heap.size → b ≠ R → w1.cell? ⟨b, o, none⟩ = W.cell? ⟨b, o, none⟩) ∧ (∀ b o, b < W.heap.size → b ≠ R → w1.frozen? ⟨b, o, none⟩ = W.frozen? ⟨b, o, none⟩) :=
 ⟨fun b o h hn => hb.cell (p := ⟨b, o, none⟩) h hn, fun b o h hn => hb.frozen (p := ⟨b, o, none⟩) h hn⟩
end Go.Proofs.YtjapddfnpmlifaaGreatDoor
