/- Sizes of what an expression of at most 500 bytes is read to: instructions, groups, pairs of bytes. No program in sight. · Header of the program, of rules that put nothing together of their own. · A number in digits: the reference's Digits, at numbers of at most four. · RulesFirst: the first schema that is found in a name counts. -/
import Derived.Test.YtjapddfnpmlifaaGreatDoorRxComp
import Derived.Test.YtjapddfnpmlifaaGreatDoorRunRlOne
import Derived.Test.YtjapddfnpmlifaaGreatDoorPkIs
import Derived.Test.YtjapddfnpmlifaaGreatDoorRunRlSch
import Derived.Test.YtjapddfnpmlifaaGreatDoorRunRuSize
import Derived.Test.YtjapddfnpmlifaaGreatDoorRunRxNam
import Derived.Test.YtjapddfnpmlifaaGreatDoorProg
import Derived.Test.YtjapddfnpmlifaaGreatDoorRunRlLines
namespace Go.Proofs.YtjapddfnpmlifaaGreatDoor
set_option linter.unusedVariables false
set_option linter.unusedSimpArgs false
open Go.RowKit

mutual
def Pc.pk : Pc → Prop
 | .leaf _ ps => ps.length ≤ 600
 | .row l => l.pk
 | .ways l => l.pk
 | .group _ k => k.pk
 | .rep _ _ k => k.pk
def PcL.pk : PcL → Prop
 | .nil => True
 | .cons p l => p.pk ∧ l.pk
end
def PkI (l : List In) : Prop := ∀ v ∈ l, v.ps.length ≤ 600
theorem PkI.app {l m : List In} (h : PkI l) (k : PkI m) : PkI (l ++ m) := fun v hv => by
 rcases List.mem_append.1 hv with h1 | h1
 ·
  exact h v h1
 ·
  exact k v h1
theorem PkI.cons {v : In} {m : List In} (h : v.ps.length ≤ 600) (k : PkI m) : PkI (v :: m) := fun u hu => by
 rcases List.mem_cons.1 hu with h1 | h1
 ·
  rw [h1]; exact h
 ·
  exact k u h1
theorem PkI.nil : PkI [] := fun v hv => by cases hv
theorem splitI_pk (z : Bool) (a b : Nat) : (splitI z a b).ps.length ≤ 600 := by cases z <;> simp [splitI]
mutual
theorem Pc.lay_pk (p : Pc) : ∀ at_, p.pk → PkI (p.lay at_) := by
 intro at_ h
 match p, h with
 | .leaf op ps, h => exact PkI.cons h PkI.nil
 | .row l, h => exact PcL.layR_pk l at_ h
 | .ways l, h => exact PcL.layW_pk l at_ _ h
 | .group g k, h =>
  simp only [Pc.lay]
  cases (g == 0)
  ·
   simp only [cond_false]
   exact PkI.cons (by simp) ((Pc.lay_pk k _ h).app (PkI.cons (by simp) PkI.nil))
  ·
   simp only [cond_true]
   exact Pc.lay_pk k _ h
 | .rep op z k, h =>
  simp only [Pc.lay]
  cases (op == 42)
  ·
   simp only [cond_false]
   cases (op == 43)
   ·
    simp only [cond_false]
    exact PkI.cons (splitI_pk _ _ _) (Pc.lay_pk k _ h)
   ·
    simp only [cond_true]
    exact (Pc.lay_pk k _ h).app (PkI.cons (splitI_pk _ _ _) PkI.nil)
  ·
   simp only [cond_true]
   exact PkI.cons (splitI_pk _ _ _) ((Pc.lay_pk k _ h).app (PkI.cons (by simp) PkI.nil))
theorem PcL.layR_pk (l : PcL) : ∀ at_, l.pk → PkI (l.layR at_) := by
 intro at_ h
 match l, h with
 | .nil, _ => exact PkI.nil
 | .cons p l, h =>
  simp only [PcL.layR]
  exact (Pc.lay_pk p _ h.1).app (PcL.layR_pk l _ h.2)
theorem PcL.layW_pk (l : PcL) : ∀ at_ e, l.pk → PkI (l.layW at_ e) := by
 intro at_ e h
 match l, h with
 | .nil, _ => exact PkI.nil
 | .cons p .nil, h => exact Pc.lay_pk p _ h.1
 | .cons p (.cons q l), h =>
  simp only [PcL.layW]
  exact PkI.cons (by simp) ((Pc.lay_pk p _ h.1).app (PkI.cons (by simp) (PcL.layW_pk (.cons q l) _ _ h.2)))
end
theorem pairsS_len (f : Bs) : (pairsS f).length ≤ 600 := by
 have := pairsT_len f 256
 unfold pairsS
 omega
theorem failS_pk (s : Rs) : (failS s).1.pk := trivial
theorem setS_pk (s : Rs) (x : Option Bs × List UInt8) : (setS s x).1.pk := by
 obtain ⟨_ | f, q⟩ := x
 ·
  exact failS_pk _
 ·
  exact pairsS_len f
section
variable {W : Rs → Pc × Rs} (hW : ∀ s, (W s).1.pk)
include hW
theorem groupS_pk (s : Rs) : (groupS W s).1.pk := by
 unfold groupS
 cases Nat.ble 64 s.deep
 ·
  simp only [cond_false]
  cases ((W (openS { s with deep := s.deep + 1 }).2).2.bad || !headIs 41 (W (openS { s with deep := s.deep + 1 }).2).2.rest)
  ·
   exact hW _
  ·
   exact failS_pk _
 ·
  exact failS_pk _
theorem atomS_pk (s : Rs) : (atomS W s).1.pk := by
 unfold atomS
 split
 ·
  exact failS_pk _
 ·
  rename_i c r hr
  cases (c.toNat == 40)
  rotate_left
  ·
   exact groupS_pk hW _
  cases (c.toNat == 94)
  rotate_left
  ·
   exact Nat.zero_le _
  cases (c.toNat == 36)
  rotate_left
  ·
   exact Nat.zero_le _
  cases (c.toNat == 46)
  rotate_left
  ·
   exact pairsS_len _
  cases (c.toNat == 91)
  rotate_left
  ·
   exact setS_pk _ _
  cases (c.toNat == 92)
  rotate_left
  ·
   exact setS_pk _ _
  cases stopC c.toNat
  ·
   exact pairsS_len _
  ·
   exact failS_pk _
theorem pieceS_pk (s : Rs) : (pieceS W s).1.pk := by
 have h0 := atomS_pk hW s
 unfold pieceS
 generalize atomS W s = t at h0 ⊢
 simp only
 cases t.2.bad
 ·
  simp only [cond_false]
  split
  ·
   exact h0
  ·
   rename_i d q _
   cases repC d.toNat
   ·
    exact h0
   ·
    exact h0
 ·
  exact h0
theorem rowS_pk (k : Nat) : ∀ s, (rowS W k s).1.pk := by
 induction k with
 | zero => intro s; trivial
 | succ k ih =>
  intro s
  unfold rowS
  cases (s.bad || endR s.rest)
  ·
   exact ⟨pieceS_pk hW s, ih _⟩
  ·
   trivial
theorem altS_pk (k : Nat) : ∀ s, (altS W k s).1.pk := by
 induction k with
 | zero => intro s; trivial
 | succ k ih =>
  intro s
  unfold altS
  simp only
  cases (!(rowP W s).2.bad && headIs 124 (rowP W s).2.rest)
  ·
   exact ⟨rowS_pk hW _ s, trivial⟩
  ·
   exact ⟨rowS_pk hW _ s, ih _⟩
end
theorem lone_pk {l : PcL} (h : l.pk) : (lone l).pk := by
 match l, h with
 | .nil, _ => trivial
 | .cons p .nil, h => exact h.1
 | .cons p (.cons q m), h => exact h
theorem waysS_pk (n : Nat) : ∀ s, (waysS n s).1.pk := by
 induction n with
 | zero => intro s; exact failS_pk s
 | succ n ih => intro s; exact lone_pk (altS_pk ih _ s)
/-- what Compile's callers ask. -/
theorem code_sizes {l : List UInt8} (h : l.length ≤ 500) : (codeY l).length ≤ 2000 ∧ grpX l ≤ 1000 ∧ ∀ v ∈ codeY l, v.ps.length ≤ 100000 := by
 have h1 := (readS_sz h).1
 have h2 := waysS_gd (l.length + 1) ⟨l, 0, 0, false, false⟩
 have h3 := waysS_pk (l.length + 1) ⟨l, 0, 0, false, false⟩
 have hg := h2.g
 simp only at hg
 refine ⟨?_, ?_, fun v hv => ?_⟩
 ·
  unfold codeY
  cases (errX l == 0)
  ·
   simp
  ·
   simp only [cond_true, codeX, List.length_cons, List.length_append, Pc.lay_len, List.length_nil]
   omega
 ·
  unfold grpX
  cases (errX l == 0)
  ·
   simp
  ·
   simp only [cond_true, readS]
   omega
 ·
  have : PkI (codeY l) := by
   unfold codeY
   cases (errX l == 0)
   ·
    exact PkI.nil
   ·
    simp only [cond_true, codeX]
    exact PkI.cons (by simp) ((Pc.lay_pk _ _ h3).app (PkI.cons (by simp) (PkI.cons (by simp) PkI.nil)))
  have := this v hv
  omega
end Go.Proofs.YtjapddfnpmlifaaGreatDoor
namespace Go.Proofs.YtjapddfnpmlifaaGreatDoor
set_option linter.unusedVariables false
set_option linter.unusedSimpArgs false
open Go.RowKit

theorem Ra.rd {w : World} {A : Option Addr} {l : List (Nat × Nat)} (h : Ra w A l) : Rd w 2 A l.length (acells l) := by
 refine ⟨acells_length l, fun h0 => ?_⟩
 obtain ⟨b, e, hb, hc⟩ := h h0
 refine ⟨⟨b, 0, none⟩, e, hb, fun j u hu => ?_⟩
 have ea : (⟨b, 0, none⟩ : Addr).add j = ⟨b, j, none⟩ := by
  unfold Addr.add; split
  ·
   rename_i h; subst h; rfl
  ·
   rw [Nat.zero_add]
 rw [ea]
 have hj : j < l.length * 2 := by
  rcases Nat.lt_or_ge j (l.length * 2) with h | h
  ·
   exact h
  ·
   rw [List.getElem?_eq_none (by rw [acells_length]; exact h)] at hu; cases hu
 obtain ⟨k, hk | hk⟩ : ∃ k, j = k * 2 ∨ j = k * 2 + 1 := ⟨j / 2, by omega⟩
 ·
  subst hk
  rw [(acells_at l k (by omega)).1] at hu
  injection hu with hu
  rw [← hu]
  exact (hc k (by omega)).1
 ·
  subst hk
  rw [(acells_at l k (by omega)).2] at hu
  injection hu with hu
  rw [← hu]
  exact (hc k (by omega)).2
set_option maxRecDepth 100000 in
set_option maxHeartbeats 3200000 in
theorem aclone_any (A : Option Addr) (c : Nat) (l : List (Nat × Nat)) (h0 : 0 < l.length) (hl : l.length ≤ 1000) (w : World) (hr : Ra w A l) :
  Calls Tryz.prog 23 #[.slice A l.length c] w fun e w' => ∃ A' c', e = .returned (.slice A' l.length c') ∧ Ra w' A' l ∧ Gr w w' ∧ ∀ ad, A' = some ad → w.heap.size ≤ ad.block := by
 obtain ⟨b, e, hb, hc⟩ := hr h0
 subst e
 obtain ⟨i0, hi, hz0, hz1, hz2⟩ := info_parts info_arch
 have hown0 : (w.alloc (.cells #[] 34)).ownsRow w.heap.size 34 2 (.slice (some ⟨w.heap.size, 0, none⟩) 0 0) 0 [] := World.ownsRow_lit w #[] 0 (Nat.le_refl _) (Nat.zero_le _) rfl
 have hr0 := hr.rd.gr (Gr.alloc (Gr.refl w) (.cells #[] 34))
 have q22 : ∀ (w : World) (a : Option Addr) (n c n' c' : Nat), (binOp .eql 27 (.slice a n c) (.slice none n' c')).run Tryz.prog w = .ok (.bool a.isNone) w := fun w a n c n' c' => Lib.run_eql_slice_nil w _ _ a n c n' c' Tryz.underlying27
 clear hc hr
 go_enter Tryz.func23, Tryz.ntmps23
 go_wp2_with (at_builtin; refine wpList_append_rd rfl (.tmp 5) (.tmp 6) 27 rfl w.heap.size 34 i0 _ 2 16 Tryz.underlying27 hi hz0 hz1 hz2 rfl (by decide) _ _ _ rfl hown0 (some ⟨b, 0, none⟩) l.length c (acells l) rfl hr0 (acells_one _) (by unfold maxLen; omega) (by omega) (by simp) ?_; intro v' w2 hown2 hgr2 hat2)
 have hg2 : Gr w w2 := Gr.grown (Gr.alloc (Gr.refl w) _) hgr2 (fun k hk => by have h : some w.heap.size = some k := hk; injection h with h; omega)
 rw [Nat.zero_add, List.nil_append] at hown2
 obtain ⟨A', c', hv⟩ := own_form hown2
 subst hv
 clear hgr2 hat2 hown0 hr0
 go_wp2
 go_ret
 exact ⟨A', c', rfl, Ra.own hown2, hg2, fun ad h => (hown2.lt ad.block (by rw [h]; rfl)).1⟩
set_option maxRecDepth 100000 in
set_option maxHeartbeats 3200000 in
theorem hclo_any (pat : ByteArray) (n c G m pc B : Nat) (A P : Option Addr) (code : List In) (nm : ByteArray) (w : World) (hm : m = code.length) (hm2 : code.length ≤ 2000) (hG : G ≤ 1000) (hps : ∀ v ∈ code, v.ps.length ≤ 100000) (hs : (nm.size : Int) ≤ 4096)
  (n0 : w.cell? ⟨B, 0, none⟩ = some (.string nm)) (hB : B < w.heap.size) (hr : Ri w P code) :
  Calls Tryz.prog 21 #[.agg #[.string pat, .slice A n c, .int .i64 (G : Nat), .slice P m pc], .pointer (some ⟨B, 0, none⟩)] w fun e w' => e = .returned (.bool (isC code nm.data.toList)) ∧ Gr w w' := by
 have gV : Gr w (w.alloc (.cells #[.string pat, .slice A n c, .int .i64 (G : Nat), .slice P m pc] 73)) := Gr.alloc (Gr.refl w) _
 have HI := Lib.hid (pis_any G m pc P code nm hm (by omega) hG hs hps _ (Rd.gr hr gV))
 have GV := Lib.hid gV
 clear gV hr hps hm hm2 hG
 go_enter Tryz.func21, Tryz.ntmps21
 go_wp2_with (go_at_call 22; refine HI.out.mono ?_; rintro e w1 ⟨rfl, g1⟩; have G1 := Lib.hid g1; clear g1)
 go_ret
 exact ⟨rfl, GV.out.trans G1.out⟩
/-- the first row that is found, if there is one. -/
def FirstR (l : List Sc) (nm : ByteArray) (k : Int) : Prop :=
 (k = -1 ∧ ∀ s ∈ l, isC s.code nm.data.toList = false) ∨ ∃ (j : Nat) (h : j < l.length), k = j ∧ isC l[j].code nm.data.toList = true ∧ ∀ i (hi : i < l.length), i < j → isC l[i].code nm.data.toList = false
structure ScRd (w : World) (g : Nat) (l : List Sc) : Prop where
 lt : g < w.heap.size
 at' : ∀ k (h : k < l.length), w.cell? ⟨g, k * 4, none⟩ = some (.string l[k].pat) ∧ w.cell? ⟨g, k * 4 + 1, none⟩ = some (.slice l[k].A l[k].ar.length l[k].c) ∧ w.cell? ⟨g, k * 4 + 2, none⟩ = some (.int .i64 l[k].g) ∧ w.cell? ⟨g, k * 4 + 3, none⟩ = some (.slice l[k].P l[k].code.length l[k].pc)
 ri : ∀ s ∈ l, Ri w s.P s.code ∧ Ra w s.A s.ar
theorem ScRd.gr {w w' : World} {g : Nat} {l : List Sc} (h : ScRd w g l) (k : Gr w w') : ScRd w' g l :=
 ⟨Nat.lt_of_lt_of_le h.lt k.size, fun j hj => by
  obtain ⟨a, b, c, d⟩ := h.at' j hj
  exact ⟨(Below.cell k (p := ⟨g, j * 4, none⟩) h.lt).trans a, (Below.cell k (p := ⟨g, j * 4 + 1, none⟩) h.lt).trans b, (Below.cell k (p := ⟨g, j * 4 + 2, none⟩) h.lt).trans c, (Below.cell k (p := ⟨g, j * 4 + 3, none⟩) h.lt).trans d⟩,
  fun s hs => ⟨Rd.gr (h.ri s hs).1 k, (h.ri s hs).2.gr k⟩⟩
set_option maxRecDepth 100000 in
set_option maxHeartbeats 3200000 in
theorem hidx_any (g c B : Nat) (l : List Sc) (hl : (l.length : Int) ≤ 1000) (nm : ByteArray) (hs : (nm.size : Int) ≤ 4096) (hp : ∀ s ∈ l, s.pat.size ≤ 500) (w : World) (n0 : w.cell? ⟨B, 0, none⟩ = some (.string nm)) (hB : B < w.heap.size) (hr : ScRd w g l) :
  Calls Tryz.prog 20 #[.slice (some ⟨g, 0, none⟩) l.length c, .func (.func 21) #[] #[.pointer (some ⟨B, 0, none⟩)]] w fun e w' => ∃ k, e = .returned (.int .i64 k) ∧ FirstR l nm k ∧ Gr w w' := by
 have HR := Lib.hid hr
 have HP := Lib.hid hp
 have HN := Lib.hid n0
 obtain ⟨n, hn⟩ : ∃ n, n = l.length := ⟨_, rfl⟩
 rw [← hn] at hl ⊢
 have Hn := Lib.hid hn
 clear hr hp n0 hn
 go_enter Tryz.func20, Tryz.ntmps20
 go_wp2
 go_loopw [8] (fun i wr => ∃ k : Nat, k ≤ n ∧ i = .int .i64 k ∧ Gr w wr ∧ ∀ j (h : j < l.length), j < k → isC l[j].code nm.data.toList = false) (fun i _ => n - (intOf i).toNat)
 case atStart => exact ⟨0, Nat.zero_le _, rfl, Gr.refl _, fun j _ h => absurd h (Nat.not_lt_zero _)⟩
 case round =>
  obtain ⟨k, hk, rfl, hgr, ha⟩ := hrel
  have Ha := Lib.hid ha
  have Hgr := Lib.hid hgr
  clear ha
  by_cases hlt : k < n
  ·
   have hlt' : (k : Int) < (n : Int) := by omega
   have hkl : k < l.length := by rw [← Hn.out]; exact hlt
   have hR := HR.out.gr hgr
   obtain ⟨a0, a1, a2, a3⟩ := hR.at' k hkl
   obtain ⟨s, hsk⟩ : ∃ s, s = l[k] := ⟨_, rfl⟩
   have hmem : s ∈ l := by rw [hsk]; exact List.getElem_mem hkl
   rw [← hsk] at a0 a1 a2 a3
   have hz := code_sizes (l := s.pat.data.toList) (by have := HP.out s hmem; simpa using this)
   have HC := Lib.hid (hclo_any s.pat s.ar.length s.c (grpX s.pat.data.toList) s.code.length s.pc B s.A s.P s.code nm wr rfl hz.1 hz.2.1 hz.2.2 hs ((Below.cell hgr (p := ⟨B, 0, none⟩) hB).trans HN.out) (Nat.lt_of_lt_of_le hB hgr.size) (hR.ri s hmem).1)
   have a2 : wr.cell? ⟨g, k * 4 + 2, none⟩ = some (.int .i64 (grpX s.pat.data.toList : Nat)) := a2
   have Hs := Lib.hid (show ∃ h : k < l.length, s = l[k]'h from ⟨hkl, hsk⟩)
   clear hR hz hsk hgr hkl
   cases hb : isC s.code nm.data.toList
   ·
    rw [hb] at HC
    have HX : Hid (∀ j (h : j < l.length), j < k + 1 → isC l[j].code nm.data.toList = false) := Lib.hid fun j h hj => by
     rcases Nat.lt_or_ge j k with h1 | h1
     ·
      exact Ha.out j h h1
     ·
      obtain rfl : j = k := by omega
      obtain ⟨_, e⟩ := Hs.out
      rw [← e]; exact hb
    clear hb
    go_wp2_with (go_at_call 21; refine HC.out.mono ?_; rintro e w2 ⟨rfl, g2⟩; have G2 := Lib.hid g2; clear g2)
    go_roundw
    case rel => exact ⟨k + 1, by omega, by go_num, Hgr.out.trans G2.out, HX.out⟩
    case measure => simp [intOf]; omega
   ·
    rw [hb] at HC
    have HX : Hid (FirstR l nm (k : Int)) := Lib.hid (by
     obtain ⟨hk, e⟩ := Hs.out
     exact .inr ⟨k, hk, rfl, by rw [← e]; exact hb, fun i hi h => Ha.out i hi h⟩)
    clear hb
    go_wp2_with (go_at_call 21; refine HC.out.mono ?_; rintro e w2 ⟨rfl, g2⟩; have G2 := Lib.hid g2; clear g2)
    go_ret
    exact ⟨_, rfl, HX.out, Hgr.out.trans G2.out⟩
  ·
   have hge : ¬ (k : Int) < (n : Int) := by omega
   have HX : Hid (FirstR l nm (-1)) := Lib.hid (.inl ⟨rfl, fun s hs => by
    obtain ⟨j, hj, rfl⟩ := List.mem_iff_getElem.1 hs
    exact Ha.out j hj (by have := Hn.out; omega)⟩)
   clear hgr
   go_wp2
   go_ret
   exact ⟨_, rfl, HX.out, Hgr.out⟩
set_option maxRecDepth 100000 in
set_option maxHeartbeats 3200000 in
theorem hidx_nil (B : Nat) (w : World) : Calls Tryz.prog 24 #[.slice none 0 0, .func (.func 25) #[] #[.pointer (some ⟨B, 0, none⟩)]] w fun e w' => e = .returned (.int .i64 (-1)) ∧ w = w' := by
 go_enter Tryz.func24, Tryz.ntmps24
 go_wp2
 go_loop [8] (fun i => i = .int .i64 0) (fun i => 0)
 case atStart => exact rfl
 case round =>
  subst hrel
  go_wp2
  go_ret
  exact ⟨rfl, rfl⟩
theorem RsM.rd {w : World} {R B0 c : Nat} {A : Option Addr} {W : World} {l : List Sc} (h : RsM w R B0 W l (.slice A l.length c)) (h0 : 0 < l.length) : ∃ g, A = some ⟨g, 0, none⟩ ∧ ScRd W g l := by
 obtain ⟨g, e, -, hg, hc⟩ := own_blockU h.own h0
 exact ⟨g, e, hg, fun k hk => by
  obtain ⟨a, b, c, d⟩ := sccells_at l k hk
  exact ⟨hc _ _ a, hc _ _ b, hc _ _ c, hc _ _ d⟩, fun s hs => ⟨(h.ok s hs).1.ri, (h.ok s hs).1.ra⟩⟩
theorem Ra.setO {w : World} {A : Option Addr} {l : List (Nat × Nat)} (h : Ra w A l) {b o : Nat} (hb : ∀ ad, A = some ad → ad.block ≠ b) (v : Value) : Ra (w.setCell ⟨b, o, none⟩ v) A l :=
 h.grown ⟨rfl, rfl, rfl, by simp, fun k hk hne => Below.heap_setCell _ _ _ k (fun e => hne (by rw [e]))⟩ fun _ ad e e2 => hb ad e (by injection e2)
/-- what Header hands back: nothing; or the first row that is found. -/
def RetHd (l : List Sc) (nm : ByteArray) (w : World) (e : Ending) (w' : World) : Prop :=
 Gr w w' ∧ (((∀ s ∈ l, isC s.code nm.data.toList = false) ∧ e = .returned (.tuple #[.agg #[.int .i64 0, .int .i64 0, .slice none 0 0], .bool false])) ∨
  ∃ (j : Nat) (h : j < l.length) (A' : Option Addr) (c' : Nat), isC l[j].code nm.data.toList = true ∧ (∀ i (hi : i < l.length), i < j → isC l[i].code nm.data.toList = false) ∧ e = .returned (.tuple #[.agg #[.int .i64 1, .int .i64 500000, .slice A' l[j].ar.length c'], .bool true]) ∧ Ra w' A' l[j].ar)
set_option maxRecDepth 100000 in
set_option maxHeartbeats 3200000 in
theorem header_any {w : World} {R B0 c : Nat} {A : Option Addr} {W : World} {l : List Sc} (h : RsM w R B0 W l (.slice A l.length c)) (h0 : 0 < l.length) (hl : (l.length : Int) ≤ 1000) (nm : ByteArray) (hs : (nm.size : Int) ≤ 4096) (hp : ∀ s ∈ l, s.pat.size ≤ 500) (ha : ∀ s ∈ l, 0 < s.ar.length ∧ s.ar.length ≤ 1000) :
  Calls Tryz.prog 7 #[.pointer (some ⟨R, 0, none⟩), .string nm] W (RetHd l nm W) := by
 obtain ⟨g, rfl, hrd⟩ := h.rd h0
 have hRW : R < W.heap.size := Nat.lt_of_lt_of_le h.lt h.sz
 have hHI := fun W' (hW : Gr W W') (B : Nat) n0 hB => hidx_any g c B l hl nm hs hp W' n0 hB (hrd.gr hW)
 have HHI := Lib.hid hHI
 have HRD := Lib.hid hrd
 have HA := Lib.hid ha
 obtain ⟨V, hV⟩ : ∃ V, V = ((W.alloc (.cells #[.string nm] 9)).alloc (.cells #[.int .i64 0, .int .i64 0, .slice none 0 0] 29)).alloc (.cells #[.int .i64 1, .int .i64 500000, .slice none 0 0] 29) := ⟨_, rfl⟩
 have gV : Gr W V := by rw [hV]; exact Gr.alloc (Gr.alloc (Gr.alloc (Gr.refl W) _) _) _
 have hVz : V.heap.size = W.heap.size + 3 := by rw [hV]; simp
 have v0 : V.cell? ⟨W.heap.size, 0, none⟩ = some (.string nm) := by rw [hV]; go_simp
 have v1 : V.cell? ⟨W.heap.size + 1, 0, none⟩ = some (.int .i64 0) ∧ V.cell? ⟨W.heap.size + 1, 1, none⟩ = some (.int .i64 0) ∧ V.cell? ⟨W.heap.size + 1, 2, none⟩ = some (.slice none 0 0) ∧ V.frozen? ⟨W.heap.size + 1, 0, none⟩ = false ∧ V.frozen? ⟨W.heap.size + 1, 1, none⟩ = false ∧ V.frozen? ⟨W.heap.size + 1, 2, none⟩ = false := by
  rw [hV]; refine ⟨?_, ?_, ?_, ?_, ?_, ?_⟩ <;> go_simp
 have v2 : V.cell? ⟨W.heap.size + 1 + 1, 0, none⟩ = some (.int .i64 1) ∧ V.cell? ⟨W.heap.size + 1 + 1, 1, none⟩ = some (.int .i64 500000) ∧ V.cell? ⟨W.heap.size + 1 + 1, 2, none⟩ = some (.slice none 0 0) ∧ V.frozen? ⟨W.heap.size + 1 + 1, 2, none⟩ = false := by
  rw [hV]; refine ⟨?_, ?_, ?_, ?_⟩ <;> go_simp
 have r0 := (Below.cell gV (p := ⟨R, 0, none⟩) hRW).trans h.c0
 have r1 := (Below.cell gV (p := ⟨R, 1, none⟩) hRW).trans h.c1
 have HV := Lib.hid hV
 have GV := Lib.hid gV
 have HC := Lib.hid (HHI.out V gV W.heap.size v0 (by omega))
 clear hHI hrd ha hp hV gV h HHI
 go_enter Tryz.func7, Tryz.ntmps7
 go_upto_region 4 with (fail)
 rw [← HV.out]
 clear HV
 go_upto_region 5 with (go_at_call 20; refine HC.out.mono ?_; rintro e w1 ⟨k, rfl, hF, g1⟩)
 have G1 := Lib.hid g1
 have c1 : ∀ b o, b < W.heap.size + 3 → w1.cell? ⟨b, o, none⟩ = V.cell? ⟨b, o, none⟩ := fun b o hb => Below.cell g1 (p := ⟨b, o, none⟩) (by show b < _; omega)
 have f1 : ∀ b o, b < W.heap.size + 3 → w1.frozen? ⟨b, o, none⟩ = V.frozen? ⟨b, o, none⟩ := fun b o hb => Below.frozen g1 (p := ⟨b, o, none⟩) (by show b < _; omega)
 have hz1 : W.heap.size + 3 ≤ w1.heap.size := by have := g1.size; omega
 obtain ⟨x0, x1, x2, y0, y1, y2⟩ := v1
 obtain ⟨z0, z1, z2, z3⟩ := v2
 replace x0 := (c1 _ _ (by omega)).trans x0
 replace x1 := (c1 _ _ (by omega)).trans x1
 replace x2 := (c1 _ _ (by omega)).trans x2
 replace y0 := (f1 _ _ (by omega)).trans y0
 replace y1 := (f1 _ _ (by omega)).trans y1
 replace y2 := (f1 _ _ (by omega)).trans y2
 replace z0 := (c1 _ _ (by omega)).trans z0
 replace z1 := (c1 _ _ (by omega)).trans z1
 replace z2 := (c1 _ _ (by omega)).trans z2
 replace z3 := (f1 _ _ (by omega)).trans z3
 replace r0 := (c1 _ _ (by omega)).trans r0
 replace r1 := (c1 _ _ (by omega)).trans r1
 clear c1 f1 v0 hVz g1 HC
 rcases hF with ⟨rfl, hno⟩ | ⟨j, hj, rfl, hyes, hfst⟩
 ·
  have HN := Lib.hid hno
  clear hno z0 z1 z2 z3 r0 r1
  go_wp2
  refine bodyPost_ret (v := .tuple #[.agg #[.int .i64 0, .int .i64 0, .slice none 0 0], .bool false]) (by simp [results, Tryz.results7, go_sem, *]) rfl ?_
  refine ⟨?_, .inl ⟨HN.out, rfl⟩⟩
  have gW := GV.out.trans G1.out
  repeat (first | exact gW | refine Gr.setCell ?_ (by show W.heap.size ≤ W.heap.size + 1; omega) _)
 ·
  have HY := Lib.hid (And.intro hyes hfst)
  have hR1 := HRD.out.gr (GV.out.trans G1.out)
  obtain ⟨a0, a1, a2, a3⟩ := hR1.at' j hj
  have hji : (j : Int) < (l.length : Int) := by omega
  obtain ⟨s, hsj⟩ : ∃ s, s = l[j] := ⟨_, rfl⟩
  have hmem : s ∈ l := by rw [hsj]; exact List.getElem_mem hj
  rw [← hsj] at a0 a1 a2 a3
  have hgz := hR1.lt
  have HCL := Lib.hid (aclone_any s.A s.c s.ar (HA.out s hmem).1 (HA.out s hmem).2 w1 (hR1.ri s hmem).2)
  have HSJ := Lib.hid (show ∃ h : j < l.length, s = l[j]'h from ⟨hj, hsj⟩)
  clear hyes hfst hR1 hsj hmem a0 a2 a3
  go_wp2_with (first | (go_at_call 23; refine HCL.out.mono ?_; rintro e w2 ⟨A', c', rfl, hra, g2, hf2⟩; have H2 := Lib.hid (And.intro hra (And.intro g2 hf2)); replace x0 := (Below.cell g2 (p := ⟨W.heap.size + 1, 0, none⟩) (by show W.heap.size + 1 < w1.heap.size; omega)).trans x0; replace x1 := (Below.cell g2 (p := ⟨W.heap.size + 1, 1, none⟩) (by show W.heap.size + 1 < w1.heap.size; omega)).trans x1; replace x2 := (Below.cell g2 (p := ⟨W.heap.size + 1, 2, none⟩) (by show W.heap.size + 1 < w1.heap.size; omega)).trans x2; replace y0 := (Below.frozen g2 (p := ⟨W.heap.size + 1, 0, none⟩) (by show W.heap.size + 1 < w1.heap.size; omega)).trans y0; replace y1 := (Below.frozen g2 (p := ⟨W.heap.size + 1, 1, none⟩) (by show W.heap.size + 1 < w1.heap.size; omega)).trans y1; replace y2 := (Below.frozen g2 (p := ⟨W.heap.size + 1, 2, none⟩) (by show W.heap.size + 1 < w1.heap.size; omega)).trans y2; replace z0 := (Below.cell g2 (p := ⟨W.heap.size + 1 + 1, 0, none⟩) (by show W.heap.size + 1 + 1 < w1.heap.size; omega)).trans z0; replace z1 := (Below.cell g2 (p := ⟨W.heap.size + 1 + 1, 1, none⟩) (by show W.heap.size + 1 + 1 < w1.heap.size; omega)).trans z1; replace z2 := (Below.cell g2 (p := ⟨W.heap.size + 1 + 1, 2, none⟩) (by show W.heap.size + 1 + 1 < w1.heap.size; omega)).trans z2; replace z3 := (Below.frozen g2 (p := ⟨W.heap.size + 1 + 1, 2, none⟩) (by show W.heap.size + 1 + 1 < w1.heap.size; omega)).trans z3; replace r1 := (Below.cell g2 (p := ⟨R, 1, none⟩) (by show R < w1.heap.size; omega)).trans r1; clear hra g2 hf2) | (go_at_call 24; refine (hidx_nil _ _).mono ?_; rintro e w3 ⟨rfl, rfl⟩))
  refine bodyPost_ret (v := .tuple #[.agg #[.int .i64 1, .int .i64 500000, .slice A' s.ar.length c'], .bool true]) (by simp [results, Tryz.results7, go_sem, *]) rfl ?_
  obtain ⟨hra, g2, hf2⟩ := H2.out
  have gW := (GV.out.trans G1.out).trans g2
  refine ⟨?_, .inr ?_⟩
  ·
   repeat (first | exact gW | refine Gr.setCell ?_ (by first | (show W.heap.size ≤ W.heap.size + 1; omega) | (show W.heap.size ≤ W.heap.size + 1 + 1; omega)) _)
  ·
   obtain ⟨hj, e⟩ := HSJ.out
   refine ⟨j, hj, A', c', HY.out.1, HY.out.2, by rw [e], ?_⟩
   rw [← e]
   have hne : ∀ ad, A' = some ad → W.heap.size + 3 ≤ ad.block := fun ad h => Nat.le_trans hz1 (hf2 ad h)
   repeat (first | exact hra | refine Ra.setO ?_ (fun ad h => (by have := hne ad h; show ad.block ≠ _; omega)) _)
end Go.Proofs.YtjapddfnpmlifaaGreatDoor
namespace Go.Proofs.YtjapddfnpmlifaaGreatDoor
set_option linter.unusedVariables false
set_option linter.unusedSimpArgs false
open Go.RowKit

set_option maxRecDepth 100000 in
set_option maxHeartbeats 1600000 in
theorem plain_any (n : Nat) (hn : n ≤ 1000) (w : World) : Calls Tryz.prog 16 #[.int .u64 (n : Nat)] w fun e w' => e = .returned (.string ⟨(digsN n).toArray⟩) ∧ Gr w w' := by
 go_enter Tryz.func16, Tryz.ntmps16
 go_wp2
 go_loopw [0, 3] (fun a b wr => ∃ (u k : Nat) (s : ByteArray), a = .int .u64 (u : Nat) ∧ b = .string s ∧ Gr w wr ∧ u ≤ 1000 ∧ digsN n = digF (k + 1) u ++ s.data.toList ∧ u < 10 ^ (k + 1) ∧ (s.size : Int) ≤ 3 - k) (fun a _ _ => (intOf a).toNat)
 case atStart => exact ⟨n, 3, ⟨#[]⟩, rfl, rfl, Gr.refl _, hn, by simp [digsN], by omega, by decide⟩
 case round =>
  obtain ⟨u, k, s, rfl, rfl, hgr, hu, hd, hk, hs⟩ := hrel
  obtain ⟨d, hdd⟩ : ∃ d : UInt8, d = (48 + u % 10).toUInt8 := ⟨_, rfl⟩
  have hdv : (d.toNat : Int) = 48 + (u : Int) % 10 := by
   rw [hdd, show ((48 + u % 10).toUInt8).toNat = 48 + u % 10 from by rw [Nat.toUInt8, UInt8.toNat_ofNat']; omega]
   omega
  have hc := conv_own (P := Tryz.prog) (src := 85) (dst := 9) Tryz.underlying85 Tryz.underlying5 Tryz.underlying9 (l := [d]) (World.ownsRow_lit (base := wr.heap.size) (e := 5) (size := 1) wr #[.int .u8 (d.toNat : Int)] 1 (Nat.le_refl _) (by decide) rfl)
  rw [hdv] at hc
  have hss : (((⟨#[d]⟩ : ByteArray) ++ s).size : Int) ≤ 1000 := by
   rw [ByteArray.size_append]
   have e : (⟨#[d]⟩ : ByteArray).size = 1 := rfl
   rw [e]; omega
  have hcd : Hid (((⟨#[d]⟩ : ByteArray) ++ s).data.toList = d :: s.data.toList) := Lib.hid (by simp)
  have Hgr := Lib.hid hgr
  have Hk := Lib.hid hk
  clear hgr hk hdv
  have hx : Hid (digsN n = digF (k + 1) u ++ s.data.toList) := Lib.hid hd
  clear hd
  by_cases h10 : u < 10
  ·
   have hz : ((u : Int) / 10 == 0) = true := by rw [beq_iff_eq]; omega
   have hE : Hid ((⟨(digsN n).toArray⟩ : ByteArray) = ⟨#[d]⟩ ++ s) := Lib.hid (by
    rw [hx.out, digF_small h10]
    apply ByteArray.ext
    apply Array.ext'
    rw [hcd.out]
    rw [hdd, Nat.mod_eq_of_lt h10]; simp)
   clear hdd
   go_wp2
   go_ret
   exact ⟨by rw [hE.out]; rfl, Hgr.out.alloc _⟩
  ·
   have hz : ((u : Int) / 10 == 0) = false := by rw [beq_eq_false_iff_ne]; omega
   obtain ⟨k', rfl⟩ : ∃ k', k = k' + 1 := by
    rcases k with _ | k'
    ·
     have := Hk.out; omega
    ·
     exact ⟨k', rfl⟩
   have hE : Hid (digsN n = digF (k' + 1) (u / 10) ++ ((⟨#[d]⟩ : ByteArray) ++ s).data.toList) := Lib.hid (by
    rw [hx.out, digF_more (by omega), hcd.out, hdd]; simp)
   have hq : Hid (u / 10 < 10 ^ (k' + 1)) := Lib.hid (by
    have := Hk.out
    rw [Nat.pow_succ] at this
    exact Nat.div_lt_of_lt_mul (by omega))
   have hsz2 : Hid ((((⟨#[d]⟩ : ByteArray) ++ s).size : Int) ≤ 3 - k') := Lib.hid (by
    rw [ByteArray.size_append]
    have e : (⟨#[d]⟩ : ByteArray).size = 1 := rfl
    rw [e]; omega)
   clear hdd hx
   go_wp2
   go_roundw
   case rel => exact ⟨u / 10, k', _, by first | rfl | simp, rfl, Hgr.out.alloc _, by omega, hE.out, hq.out, hsz2.out⟩
   case measure => simp [intOf]; omega
set_option maxRecDepth 100000 in
set_option maxHeartbeats 1600000 in
theorem digits_any (n : Nat) (hn : (n : Int) ≤ 1000) (w : World) : Calls Tryz.prog 5 #[.int .i64 (n : Nat)] w fun e w' => e = .returned (.string ⟨(digsN n).toArray⟩) ∧ Gr w w' := by
 have HP := Lib.hid (plain_any n (by omega) w)
 go_enter Tryz.func5, Tryz.ntmps5
 go_wp2_with (go_at_call 16; refine HP.out.mono ?_; rintro e w1 ⟨rfl, g1⟩; have G1 := Lib.hid g1; clear g1)
 go_ret
 exact ⟨rfl, G1.out⟩
end Go.Proofs.YtjapddfnpmlifaaGreatDoor
namespace Go.Proofs.YtjapddfnpmlifaaGreatDoor
set_option linter.unusedVariables false
set_option linter.unusedSimpArgs false
open Go.RowKit

def c18 : List UInt8 := [35, 32, 102, 105, 114, 115, 116, 10, 10, 115, 99, 104, 101, 109, 97, 32, 97, 32]
def c15 : List UInt8 := [115, 99, 104, 101, 109, 97, 32, 46, 32, 55, 58, 55, 10, 35, 10]
def l2 (a b : Nat) : List UInt8 := [115, 99, 104, 101, 109, 97, 32, 97, 32] ++ digsN a ++ [58] ++ digsN b ++ [10]
def l3 : List UInt8 := [115, 99, 104, 101, 109, 97, 32, 46, 32, 55, 58, 55, 10]
def txt0 (a b : Nat) : List UInt8 := c18 ++ digsN a ++ [58] ++ digsN b ++ [10]
def reps : Nat → List UInt8
 | 0 => []
 | m + 1 => c15 ++ reps m
theorem reps_snoc : ∀ m, reps (m + 1) = reps m ++ c15
 | 0 => rfl
 | m + 1 => by
  show c15 ++ reps (m + 1) = (c15 ++ reps m) ++ c15
  rw [reps_snoc m, List.append_assoc]
theorem reps_len : ∀ m, (reps m).length = 15 * m
 | 0 => rfl
 | m + 1 => by rw [reps, List.length_append, reps_len m]; show 15 + 15 * m = _; omega
def rlines : Nat → List (List UInt8)
 | 0 => []
 | m + 1 => l3 :: [35, 10] :: rlines m
theorem lines_reps : ∀ m, linesS (reps m) = rlines m
 | 0 => rfl
 | m + 1 => by
  have e : reps (m + 1) = [115, 99, 104, 101, 109, 97, 32, 46, 32, 55, 58, 55] ++ 10 :: ([35] ++ 10 :: reps m) := rfl
  rw [e, lines_end _ _ (by decide), lines_end _ _ (by decide), lines_reps m]
  rfl
theorem lines_txt {a b : Nat} (ha : a ≤ 1000) (hb : b ≤ 1000) (m : Nat) : linesS (txt0 a b ++ reps m) = [[35, 32, 102, 105, 114, 115, 116, 10], [10], l2 a b] ++ rlines m := by
 have e : txt0 a b ++ reps m = [35, 32, 102, 105, 114, 115, 116] ++ 10 :: ([] ++ 10 :: (([115, 99, 104, 101, 109, 97, 32, 97, 32] ++ digsN a ++ [58] ++ digsN b) ++ 10 :: reps m)) := by
  simp [txt0, c18]
 rw [e, lines_end _ _ (by decide), lines_end _ _ (by decide), lines_end _ _ ?_, lines_reps m]
 ·
  rfl
 ·
  intro h
  simp only [List.mem_append] at h
  rcases h with ((h | h) | h) | h
  ·
   revert h; decide
  ·
   exact digs_not ha 10 (by decide) h
  ·
   revert h; decide
  ·
   exact digs_not hb 10 (by decide) h
def rowF25 (a b : Nat) (x : List UInt8) : Option (ByteArray × List (Nat × Nat)) :=
 if x = l2 a b then some (⟨#[97]⟩, [(a, b)]) else if x = l3 then some (⟨#[46]⟩, [(7, 7)]) else none
theorem l2_ne (a b : Nat) : l3 ≠ l2 a b := by
 intro h
 have : l3[7]? = (l2 a b)[7]? := by rw [h]
 rw [show l3[7]? = some 46 from rfl, show (l2 a b)[7]? = some 97 from rfl] at this
 cases this
theorem row_l2 (a b : Nat) : rowF25 a b (l2 a b) = some (⟨#[97]⟩, [(a, b)]) := by rw [rowF25, if_pos rfl]
theorem row_l3 (a b : Nat) : rowF25 a b l3 = some (⟨#[46]⟩, [(7, 7)]) := by rw [rowF25, if_neg (l2_ne a b), if_pos rfl]
theorem row_no (a b : Nat) {c : UInt8} {x : List UInt8} (h : c ≠ 115) : rowF25 a b (c :: x) = none := by
 have h1 : c :: x ≠ l2 a b := fun e => h (by
  have : (c :: x)[0]? = (l2 a b)[0]? := by rw [e]
  rw [show (l2 a b)[0]? = some 115 from rfl] at this
  injection this)
 have h2 : c :: x ≠ l3 := fun e => h (by
  have : (c :: x)[0]? = l3[0]? := by rw [e]
  rw [show l3[0]? = some 115 from rfl] at this
  injection this)
 rw [rowF25, if_neg h1, if_neg h2]
def rrows : Nat → List (ByteArray × List (Nat × Nat))
 | 0 => []
 | m + 1 => (⟨#[46]⟩, [(7, 7)]) :: rrows m
theorem rrows_len : ∀ m, (rrows m).length = m
 | 0 => rfl
 | m + 1 => by rw [rrows, List.length_cons, rrows_len m]
theorem rrows_mem : ∀ m x, x ∈ rrows m → x = (⟨#[46]⟩, [(7, 7)])
 | 0, x, h => by cases h
 | m + 1, x, h => by
  rcases List.mem_cons.1 h with h | h
  ·
   exact h
  ·
   exact rrows_mem m x h
theorem rows_rlines (a b : Nat) : ∀ m, (rlines m).filterMap (rowF25 a b) = rrows m
 | 0 => rfl
 | m + 1 => by
  rw [rlines, List.filterMap_cons_some (row_l3 a b), List.filterMap_cons_none (row_no a b (by decide)), rows_rlines a b m]
  rfl
theorem rows_txt {a b : Nat} (ha : a ≤ 1000) (hb : b ≤ 1000) (m : Nat) : (linesS (txt0 a b ++ reps m)).filterMap (rowF25 a b) = (⟨#[97]⟩, [(a, b)]) :: rrows m := by
 rw [lines_txt ha hb, List.filterMap_append, rows_rlines, List.filterMap_cons_none (row_no a b (by decide)), List.filterMap_cons_none (row_no a b (by decide)), List.filterMap_cons_some (row_l2 a b)]
 rfl
theorem good_l2 {a b : Nat} (ha0 : 1 ≤ a) (ha : a ≤ 1000) (hb0 : 1 ≤ b) (hb : b ≤ 1000) : GoodL (trimS (l2 a b)) ⟨#[97]⟩ ⟨(digsN a ++ 58 :: digsN b).toArray⟩ [(a, b)] := by
 have e : trimS (l2 a b) = schW ++ 32 :: ([97] ++ 32 :: (digsN a ++ 58 :: digsN b)) := by
  have : l2 a b = (schW ++ 32 :: ([97] ++ 32 :: (digsN a ++ 58 :: digsN b))) ++ [10] := by simp [l2, schW]
  rw [this, trim_end]
 have hn : (32 : UInt8) ∉ digsN a ++ 58 :: digsN b := by
  intro h
  simp only [List.mem_append, List.mem_cons] at h
  rcases h with h | h | h
  ·
   exact digs_not ha 32 (by decide) h
  ·
   revert h; decide
  ·
   exact digs_not hb 32 (by decide) h
 obtain ⟨x1, x2, x3, x4⟩ := digs_ok ha
 obtain ⟨y1, y2, y3, y4⟩ := digs_ok hb
 refine ⟨?_, by decide, by simp, by decide, ?_, err_a, ?_⟩
 ·
  rw [e, part_at 32 _ _ (by decide), part_at 32 _ _ (by decide), part_none 32 _ hn]
 ·
  show (((digsN a ++ 58 :: digsN b).toArray.size : Nat) : Int) ≤ 300
  rw [List.size_toArray, List.length_append, List.length_cons]
  omega
 ·
  exact ret_one x1 y1 (digs_not ha 44 (by decide)) (digs_not hb 44 (by decide)) (digs_not ha 58 (by decide)) ha0 ha hb0 hb
theorem good_l3 : GoodL (trimS l3) ⟨#[46]⟩ ⟨#[55, 58, 55]⟩ [(7, 7)] := by
 have e : trimS l3 = schW ++ 32 :: ([46] ++ 32 :: [55, 58, 55]) := by
  rw [show l3 = (schW ++ 32 :: ([46] ++ 32 :: [55, 58, 55])) ++ [10] from rfl, trim_end]
 refine ⟨?_, by decide, by decide, by decide, by decide, err_dot, by kernel_rfl⟩
 rw [e, part_at 32 _ _ (by decide), part_at 32 _ _ (by decide), part_none 32 _ (by decide)]
theorem skip_l2 (a b : Nat) : skipS (trimS (l2 a b)) = false := by
 have : l2 a b = ([115, 99, 104, 101, 109, 97, 32, 97, 32] ++ digsN a ++ [58] ++ digsN b) ++ [10] := rfl
 rw [this, trim_end]
 rfl
theorem lineF_all {a b : Nat} (ha0 : 1 ≤ a) (ha : a ≤ 1000) (hb0 : 1 ≤ b) (hb : b ≤ 1000) (m : Nat) : ∀ x ∈ linesS (txt0 a b ++ reps m), LineF (rowF25 a b) x := by
 have h2 : LineF (rowF25 a b) (l2 a b) := ⟨fun h => (by rw [row_l2] at h; cases h), fun p ar h => by
  rw [row_l2] at h
  injection h with h
  injection h with h1 h3
  subst h1 h3
  exact ⟨skip_l2 a b, _, good_l2 ha0 ha hb0 hb⟩⟩
 have h3 : LineF (rowF25 a b) l3 := ⟨fun h => (by rw [row_l3] at h; cases h), fun p ar h => by
  rw [row_l3] at h
  injection h with h
  injection h with h1 h3
  subst h1 h3
  exact ⟨by decide, _, good_l3⟩⟩
 have hno : ∀ (c : UInt8) (x : List UInt8), c ≠ 115 → skipS (trimS (c :: x)) = true → LineF (rowF25 a b) (c :: x) := fun c x hc hs => ⟨fun _ => hs, fun p ar h => by rw [row_no a b hc] at h; cases h⟩
 have hr : ∀ m, ∀ x ∈ rlines m, LineF (rowF25 a b) x := by
  intro m
  induction m with
  | zero => intro x hx; cases hx
  | succ m ih =>
   intro x hx
   rcases List.mem_cons.1 hx with rfl | hx
   ·
    exact h3
   ·
    rcases List.mem_cons.1 hx with rfl | hx
    ·
     exact hno _ _ (by decide) (by decide)
    ·
     exact ih x hx
 intro x hx
 rw [lines_txt ha hb] at hx
 rcases List.mem_append.1 hx with hx | hx
 ·
  simp only [List.mem_cons, List.not_mem_nil, or_false] at hx
  rcases hx with rfl | rfl | rfl
  ·
   exact hno _ _ (by decide) (by decide)
  ·
   exact hno _ _ (by decide) (by decide)
  ·
   exact h2
 ·
  exact hr m x hx
end Go.Proofs.YtjapddfnpmlifaaGreatDoor
