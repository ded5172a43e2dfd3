/- The reader of a header's numbers: (*whead.reader).number. · What whead.Decode finds, plainly; its own blocks. -/
import Derived.Test.YtoncapkmaeghfaaRunWhHdr
import Derived.Test.YtoncapkmaeghfaaRunWhOff
namespace Go.Proofs.Ytoncapkmaeghfaa
set_option linter.unusedVariables false
set_option linter.unusedSimpArgs false
open Go.RowKit

theorem or_byte_i (x b : Nat) (hx : x < 4294967296) (hb : b < 256) : bits .or .i64 ((x : Int) * 256) (b : Int) = ((x * 256 + b : Nat) : Int) := by
 have hy : x * 256 ||| b < 2 ^ 64 := Nat.or_lt_two_pow (by omega) (by omega)
 have h1 : (BitVec.ofInt 64 ((x * 256 : Nat) : Int)).toNat = x * 256 := by
  rw [BitVec.ofInt_natCast, BitVec.toNat_ofNat]; exact Nat.mod_eq_of_lt (by omega)
 have h2 : (BitVec.ofInt 64 (b : Int)).toNat = b := by
  rw [BitVec.ofInt_natCast, BitVec.toNat_ofNat]; exact Nat.mod_eq_of_lt (by omega)
 have e : (((x * 256 : Nat) : Nat) : Int) = (x : Int) * 256 := by simp
 have h3 : x * 256 ||| b = x * 256 + b := by
  have := Nat.shiftLeft_add_eq_or_of_lt (i := 8) (show b < 2 ^ 8 by omega) x
  rw [Nat.shiftLeft_eq] at this
  exact this.symm
 rw [← e]
 show IntKind.i64.wrap ((BitVec.ofInt 64 ((x * 256 : Nat) : Int) ||| BitVec.ofInt 64 (b : Int)).toNat : Int) = _
 rw [BitVec.toNat_or, h1, h2, h3, IntKind.wrap_i64]
 omega
/-- the j-th number of four bytes; nought where there is none. -/
def numAt (L : List UInt8) (j : Nat) : Nat := if 4 * (j + 1) ≤ L.length then ofB ((L.drop (4 * j)).take 4) else 0
theorem numAt_lt (L : List UInt8) (j : Nat) : numAt L j < 4294967296 := by
 unfold numAt
 split
 ·
  have := ofB_le (l := (L.drop (4 * j)).take 4) (k := 4) (by rw [List.length_take]; omega)
  have e : (256 : Nat) ^ 4 = 4294967296 := by decide
  omega
 ·
  omega
def offJ (L : List UInt8) (j : Nat) : Nat := 4 * min j (L.length / 4)
/-- a reader that was asked j times. -/
structure RdAt (w : World) (R b c : Nat) (L : List UInt8) (j : Nat) : Prop where
 lt : R < w.heap.size
 c0 : ∃ A, w.cell? ⟨R, 0, none⟩ = some (.slice A (L.length - offJ L j) (c - offJ L j)) ∧ (offJ L j < L.length → A = some ⟨b, offJ L j, none⟩)
 c1 : w.cell? ⟨R, 1, none⟩ = some (.bool (decide (L.length < 4 * j)))
 f0 : w.frozen? ⟨R, 0, none⟩ = false
 f1 : w.frozen? ⟨R, 1, none⟩ = false
theorem RdAt.kp {w w' : World} {R b c : Nat} {L : List UInt8} {j : Nat} {S : Nat → Prop} (h : RdAt w R b c L j) (k : Kp S w w') (hn : ¬ S R) : RdAt w' R b c L j :=
 ⟨Nat.lt_of_lt_of_le h.lt k.size, let ⟨A, h0, h1⟩ := h.c0; ⟨A, (k.cell (a := ⟨R, 0, none⟩) h.lt hn).trans h0, h1⟩, (k.cell (a := ⟨R, 1, none⟩) h.lt hn).trans h.c1, (k.frozen (a := ⟨R, 0, none⟩) h.lt hn).trans h.f0, (k.frozen (a := ⟨R, 1, none⟩) h.lt hn).trans h.f1⟩
theorem RdAt.took {w : World} {R b c : Nat} {L : List UInt8} {j n d : Nat} {A : Option Addr} {v : Value} (hlt : R < w.heap.size) (c0 : w.cell? ⟨R, 0, none⟩ = some v) (c1 : w.cell? ⟨R, 1, none⟩ = some (.bool (decide (L.length < 4 * j)))) (f0 : w.frozen? ⟨R, 0, none⟩ = false) (f1 : w.frozen? ⟨R, 1, none⟩ = false)
  (h4 : 4 * (j + 1) ≤ L.length) (hn : n = L.length - offJ L (j + 1)) (hd : d = c - offJ L (j + 1)) (hA : offJ L (j + 1) < L.length → A = some ⟨b, offJ L (j + 1), none⟩) : RdAt (w.setCell ⟨R, 0, none⟩ (.slice A n d)) R b c L (j + 1) := by
 refine ⟨by simpa using hlt, ⟨A, ?_, hA⟩, ?_, by rw [World.frozen?_setCell]; exact f0, by rw [World.frozen?_setCell]; exact f1⟩
 ·
  rw [← hn, ← hd]
  exact World.cell?_setCell_same' _ _ _ (by rw [c0]; rfl)
 ·
  have e : decide (L.length < 4 * j) = decide (L.length < 4 * (j + 1)) := by rw [decide_eq_false (by omega), decide_eq_false (by omega)]
  rw [← e]
  exact (World.cell?_setCell_other w ⟨R, 0, none⟩ ⟨R, 1, none⟩ _ (by first | (simp; done) | (simp; omega))).trans c1
theorem RdAt.miss {w : World} {R b c : Nat} {L : List UInt8} {j : Nat} (h : RdAt w R b c L j) (h4 : L.length < 4 * (j + 1)) : RdAt (w.setCell ⟨R, 1, none⟩ (.bool true)) R b c L (j + 1) := by
 obtain ⟨A, c0, hA⟩ := h.c0
 have ho : offJ L (j + 1) = offJ L j := by unfold offJ; omega
 refine ⟨by simpa using h.lt, ⟨A, ?_, by rw [ho]; exact hA⟩, ?_, by rw [World.frozen?_setCell]; exact h.f0, by rw [World.frozen?_setCell]; exact h.f1⟩
 ·
  rw [ho]
  exact (World.cell?_setCell_other w ⟨R, 1, none⟩ ⟨R, 0, none⟩ _ (by first | (simp; done) | (simp; omega))).trans c0
 ·
  rw [decide_eq_true h4]
  exact World.cell?_setCell_same' _ _ _ (by rw [h.c1]; rfl)
set_option maxRecDepth 100000 in
set_option maxHeartbeats 6400000 in
theorem rnum_any (R b c : Nat) (L : List UInt8) (j : Nat) (hj : j ≤ 1000) (hL : (L.length : Int) ≤ 1073741824) (hc : L.length ≤ c) (hcb : (c : Int) ≤ 9223372036854775807) (w : World) (h : RdAt w R b c L j) (hr : 4 ≤ L.length → Rb w (some ⟨b, 0, none⟩) L) (hne : b ≠ R) :
  Calls Try.prog 56 #[.pointer (some ⟨R, 0, none⟩)] w fun e w' => e = .returned (.int .i64 (numAt L j : Nat)) ∧ RdAt w' R b c L (j + 1) ∧ Kp (fun k => k = R) w w' := by
 obtain ⟨A, c0, hA0⟩ := h.c0
 have c1 := h.c1
 have f0 := h.f0
 have f1 := h.f1
 have hlt := h.lt
 have Hh := Lib.hid h
 clear h
 by_cases h4 : 4 * (j + 1) ≤ L.length
 ·
  have ho : offJ L j = 4 * j := by unfold offJ; omega
  have ho' : offJ L (j + 1) = 4 * j + 4 := by unfold offJ; omega
  obtain ⟨o, hoo⟩ : ∃ o, o = 4 * j := ⟨_, rfl⟩
  rw [ho, ← hoo] at c0 hA0
  have hA1 := hA0 (by omega)
  subst hA1
  rw [← hoo] at ho'
  obtain ⟨n, hn⟩ : ∃ n, n = L.length - o := ⟨_, rfl⟩
  obtain ⟨d, hd⟩ : ∃ d, d = c - o := ⟨_, rfl⟩
  rw [← hn, ← hd] at c0
  have hn4 : ¬ (n : Int) < 4 := by omega
  have hn4b : (4 : Int) ≤ (n : Int) := by omega
  have hd4 : (4 : Int) ≤ (d : Int) := by omega
  have hnd : (n : Int) ≤ (d : Int) := by omega
  have hni : (n : Int) ≤ 1073741824 := by omega
  have hdi : (d : Int) ≤ 9223372036854775807 := by omega
  obtain ⟨ad, hA, hb, hcb2⟩ := (hr (by omega)).2 (by omega)
  injection hA with hA
  subst hA
  have hcell : ∀ k (hk : k < ((L.drop o).take 4).length), w.cell? ⟨b, o + k, none⟩ = some (.int .u8 ((((L.drop o).take 4)[k].toNat : Nat) : Int)) := fun k hk => by
   have hkl : o + k < L.length := by rw [List.length_take, List.length_drop] at hk; omega
   have := hcb2 (o + k) _ (bys_at L (o + k) hkl)
   rw [show (⟨b, 0, none⟩ : Addr).add (o + k) = ⟨b, o + k, none⟩ by simp [Addr.add]; omega] at this
   rw [this, List.getElem_take, List.getElem_drop]
  obtain ⟨q, hl4, hcell, hval⟩ : ∃ q : List UInt8, q.length = 4 ∧ (∀ k (hk : k < q.length), w.cell? ⟨b, o + k, none⟩ = some (.int .u8 ((q[k].toNat : Nat) : Int))) ∧ numAt L j = ofB q :=
   ⟨(L.drop o).take 4, by rw [List.length_take, List.length_drop]; omega, hcell, by unfold numAt; rw [if_pos h4, hoo]⟩
  rw [hval]
  have HC := Lib.hid hcell
  have HX := Lib.hid (And.intro hoo (And.intro hn (And.intro hd (And.intro ho' h4))))
  have hoi : (o : Int) ≤ 1073741824 := by omega
  clear hr hcb2 hcell hval hA0 ho ho' hoo hn hd h4 hc hcb hL
  go_enter Try.func56, Try.ntmps56
  go_wp2
  go_loopw [21, 3] (fun i v wr => ∃ k : Nat, k ≤ 4 ∧ i = .int .i64 k ∧ v = .int .i64 (ofB (q.take k) : Nat) ∧ wr = w) (fun i _ _ => 4 - (intOf i).toNat)
  case atStart => exact ⟨0, Nat.zero_le _, rfl, by rw [List.take_zero]; rfl, rfl⟩
  case round =>
   obtain ⟨k, hk, rfl, rfl, hww⟩ := hrel
   subst hww
   by_cases hk4 : k < 4
   ·
    have hki : (k : Int) < 4 := by omega
    have hkl : k < q.length := by rw [hl4]; exact hk4
    have cs := HC.out k hkl
    have HT : Hid (ofB (q.take (k + 1)) = ofB (q.take k) * 256 + q[k].toNat) := Lib.hid (by rw [List.take_succ_eq_append_getElem hkl, ofB_snoc])
    have hxb : ofB (q.take k) < 16777216 := by
     have := ofB_le (l := q.take k) (k := 3) (by rw [List.length_take]; omega)
     have e : (256 : Nat) ^ 3 = 16777216 := by decide
     omega
    obtain ⟨x, hx⟩ : ∃ x, x = ofB (q.take k) := ⟨_, rfl⟩
    rw [← hx] at HT hxb ⊢
    obtain ⟨y, hy⟩ : ∃ y : UInt8, y = q[k] := ⟨_, rfl⟩
    rw [← hy] at cs HT
    have hyl := y.toNat_lt
    have hw1 : IntKind.i64.wrap ((x : Int) * 256) = (x : Int) * 256 := IntWalk.i64_in _ (by omega)
    have hw2 : IntKind.i64.wrap (y.toNat : Int) = (y.toNat : Int) := IntWalk.i64_in _ (by omega)
    have hor := or_byte_i x y.toNat (by omega) (by omega)
    obtain ⟨z, hz⟩ : ∃ z : Nat, z = x * 256 + y.toNat := ⟨_, rfl⟩
    rw [← hz] at hor HT
    clear hx hy hz hyl hxb hkl
    go_wp2
    go_roundw
    case rel => exact ⟨k + 1, by omega, by go_num, by rw [HT.out], by first | trivial | rfl⟩
    case measure => simp [intOf]; omega
   ·
    have hk : k = 4 := by omega
    subst hk
    have HE : Hid (ofB (q.take 4) = ofB q) := Lib.hid (by rw [List.take_of_length_le (by omega)])
    go_wp2
    all_goals go_ret
    case _ => exact ⟨by rw [← HE.out]; rfl, RdAt.took hlt c0 c1 f0 f1 HX.out.2.2.2.2 (by have := HX.out; omega) (by have := HX.out; omega) (fun h => by have := HX.out; omega), (Kp.refl (fun k => k = R) _).set (p := ⟨R, 0, none⟩) (.inl (show R = R from rfl)) _⟩
    case _ => exact ⟨by rw [← HE.out]; rfl, RdAt.took hlt c0 c1 f0 f1 HX.out.2.2.2.2 (by have := HX.out; omega) (by have := HX.out; omega) (fun h => by rw [HX.out.2.2.2.1]), (Kp.refl (fun k => k = R) _).set (p := ⟨R, 0, none⟩) (.inl (show R = R from rfl)) _⟩
 ·
  have h4' : L.length < 4 * (j + 1) := by omega
  have hval : numAt L j = 0 := by unfold numAt; rw [if_neg h4]
  rw [hval]
  obtain ⟨n, hn⟩ : ∃ n, n = L.length - offJ L j := ⟨_, rfl⟩
  obtain ⟨d, hd⟩ : ∃ d, d = c - offJ L j := ⟨_, rfl⟩
  rw [← hn, ← hd] at c0
  have hn4 : (n : Int) < 4 := by have : offJ L j = 4 * min j (L.length / 4) := rfl; omega
  have HM := Lib.hid (Hh.out.miss h4')
  clear hn hd hA0 hval h4 h4' hL hc hcb hr hj
  go_enter Try.func56, Try.ntmps56
  go_wp2
  go_ret
  exact ⟨rfl, HM.out, (Kp.refl (fun k => k = R) _).set (p := ⟨R, 1, none⟩) (.inl (show R = R from rfl)) _⟩
end Go.Proofs.Ytoncapkmaeghfaa
namespace Go.Proofs.Ytoncapkmaeghfaa
set_option linter.unusedVariables false
set_option linter.unusedSimpArgs false
open Go.RowKit

def arcAt (L : List UInt8) (i : Nat) : Nat × Nat := (numAt L (4 + 3 * i + 1), numAt L (4 + 3 * i + 2))
def arcsAt (L : List UInt8) : Nat → List (Nat × Nat)
 | 0 => []
 | k + 1 => arcsAt L k ++ [arcAt L k]
theorem arcsAt_len (L : List UInt8) : ∀ k, (arcsAt L k).length = k
 | 0 => rfl
 | k + 1 => by rw [arcsAt, List.length_append, arcsAt_len L k]; rfl
/-- the header that bytes begin with. -/
def decH (L : List UInt8) : Option (Nat × Nat × List (Nat × Nat)) :=
 bif Nat.ble 1 (numAt L 3) && Nat.ble (numAt L 3) 8 then
  bif Nat.ble (16 + 12 * numAt L 3) L.length && mayH (numAt L 0) (numAt L 2) (ints (arcsAt L (numAt L 3))) && (hdrS (numAt L 0) (numAt L 2) (arcsAt L (numAt L 3))).isPrefixOf L then
   some (numAt L 0, numAt L 2, arcsAt L (numAt L 3)) else none else none
theorem decH_n {L : List UInt8} (h : numAt L 3 < 1 ∨ 8 < numAt L 3) : decH L = none := by
 unfold decH
 rcases h with h | h
 ·
  rw [show Nat.ble 1 (numAt L 3) = false by rw [Bool.eq_false_iff, ne_eq, Nat.ble_eq]; omega]; rfl
 ·
  rw [show Nat.ble (numAt L 3) 8 = false by rw [Bool.eq_false_iff, ne_eq, Nat.ble_eq]; omega, Bool.and_false]; rfl
theorem decH_in {L : List UInt8} (h : 1 ≤ numAt L 3) (h' : numAt L 3 ≤ 8) : decH L = (bif Nat.ble (16 + 12 * numAt L 3) L.length && mayH (numAt L 0) (numAt L 2) (ints (arcsAt L (numAt L 3))) && (hdrS (numAt L 0) (numAt L 2) (arcsAt L (numAt L 3))).isPrefixOf L then
   some (numAt L 0, numAt L 2, arcsAt L (numAt L 3)) else none) := by
 unfold decH
 rw [show Nat.ble 1 (numAt L 3) = true by rw [Nat.ble_eq]; exact h, show Nat.ble (numAt L 3) 8 = true by rw [Nat.ble_eq]; exact h']
 rfl
theorem decH_short {L : List UInt8} {k : Nat} (h : L.length < 4 * (4 + 3 * k)) (hk : k ≤ numAt L 3) : decH L = none := by
 rcases Nat.lt_or_ge (numAt L 3) 1 with h1 | h1
 ·
  exact decH_n (.inl h1)
 rcases Nat.lt_or_ge 8 (numAt L 3) with h8 | h8
 ·
  exact decH_n (.inr h8)
 rw [decH_in h1 h8, show Nat.ble (16 + 12 * numAt L 3) L.length = false by rw [Bool.eq_false_iff, ne_eq, Nat.ble_eq]; omega]
 rfl
theorem decH_no {L : List UInt8} (h : mayH (numAt L 0) (numAt L 2) (ints (arcsAt L (numAt L 3))) = false ∨ (hdrS (numAt L 0) (numAt L 2) (arcsAt L (numAt L 3))).isPrefixOf L = false) : decH L = none := by
 rcases Nat.lt_or_ge (numAt L 3) 1 with h1 | h1
 ·
  exact decH_n (.inl h1)
 rcases Nat.lt_or_ge 8 (numAt L 3) with h8 | h8
 ·
  exact decH_n (.inr h8)
 rw [decH_in h1 h8]
 rcases h with h | h
 ·
  rw [h, Bool.and_false, Bool.false_and]; rfl
 ·
  rw [h, Bool.and_false]; rfl
theorem decH_yes {L : List UInt8} (hl : 16 + 12 * numAt L 3 ≤ L.length) (h : mayH (numAt L 0) (numAt L 2) (ints (arcsAt L (numAt L 3))) = true) (hp : (hdrS (numAt L 0) (numAt L 2) (arcsAt L (numAt L 3))).isPrefixOf L = true) : decH L = some (numAt L 0, numAt L 2, arcsAt L (numAt L 3)) := by
 obtain ⟨m, hm, h2, -⟩ := mayH_nat h
 have hf := mayS_facts h2
 have hmm : arcsAt L (numAt L 3) = m := by rw [← nats_ints (arcsAt L (numAt L 3)), hm, nats_ints]
 have hlm : m.length = numAt L 3 := by rw [← hmm, arcsAt_len]
 rw [decH_in (by omega) (by omega), h, hp, show Nat.ble (16 + 12 * numAt L 3) L.length = true by rw [Nat.ble_eq]; exact hl]
 rfl
theorem mayH_nil (ag xf : Int) : mayH ag xf (ints []) = false := by
 unfold mayH
 rw [show mayS (nats (ints [])) = false from rfl, Bool.and_false]
/-- cells of a row of archives. -/
def acells (l : List (Nat × Nat)) : List Value := l.flatMap fun a => [.int .i64 (a.1 : Nat), .int .i64 (a.2 : Nat)]
theorem acells_cons (a : Nat × Nat) (l : List (Nat × Nat)) : acells (a :: l) = .int .i64 (a.1 : Nat) :: .int .i64 (a.2 : Nat) :: acells l := rfl
theorem acells_append (l m : List (Nat × Nat)) : acells (l ++ m) = acells l ++ acells m := by simp [acells]
theorem acells_length (l : List (Nat × Nat)) : (acells l).length = l.length * 2 := by
 induction l with
 | nil => rfl
 | cons v l ih => rw [acells_cons]; simp only [List.length_cons, ih]; omega
theorem acells_one (l : List (Nat × Nat)) : ∀ u ∈ acells l, u.oneCell' = true := by
 intro u hu
 simp only [acells, List.mem_flatMap] at hu
 obtain ⟨v, _, hv⟩ := hu
 simp at hv
 rcases hv with rfl | rfl <;> rfl
theorem acells_at (l : List (Nat × Nat)) : ∀ (k : Nat) (h : k < l.length), (acells l)[k * 2]? = some (.int .i64 (l[k].1 : Nat)) ∧ (acells l)[k * 2 + 1]? = some (.int .i64 (l[k].2 : Nat)) := by
 induction l with
 | nil => intro k h; simp at h
 | cons v l ih =>
  intro k h
  match k with
  | 0 => exact ⟨rfl, rfl⟩
  | k + 1 =>
   obtain ⟨i1, i2⟩ := ih k (by simpa using h)
   rw [acells_cons]
   refine ⟨?_, ?_⟩
   ·
    rw [show (k + 1) * 2 = k * 2 + 1 + 1 by omega]; simpa using i1
   ·
    rw [show (k + 1) * 2 + 1 = k * 2 + 1 + 1 + 1 by omega]; simpa using i2
theorem Ri.own {w : World} {base : Nat} {e : TypeId} {n c : Nat} {A : Option Addr} {l : List (Nat × Nat)} (h : w.ownsRow base e 2 (.slice A n c) n (acells l)) : Ri w A (ints l) := fun h0 => by
 rw [ints_len] at h0
 have hn : n = l.length := by have := h.1; rw [acells_length] at this; omega
 obtain ⟨g, e, -, hg, hc⟩ := own_blockU h (by omega)
 refine ⟨g, e, hg, fun k hk => ?_⟩
 rw [ints_len] at hk
 rw [ints_at l k hk]
 exact ⟨hc _ _ (acells_at l k hk).1, hc _ _ (acells_at l k hk).2⟩
theorem info_arch : (Try.prog.info? 30).map (fun i => (i.zero, i.size, i.bytes)) = some (some (.agg #[.int .i64 0, .int .i64 0]), 2, 16) := by kernel_rfl
/-- Decode's own blocks: s the result, s + 1 the reader, s + 2 the header. -/
structure DeS (w0 w : World) (b c : Nat) (L : List UInt8) (j : Nat) (x0 x1 : Int) (v : Value) : Prop where
 gr : Gr w0 w
 rd : RdAt w (w0.heap.size + 1) b c L j
 lt : w0.heap.size + 2 < w.heap.size
 h0 : w.cell? ⟨w0.heap.size + 2, 0, none⟩ = some (.int .i64 x0)
 h1 : w.cell? ⟨w0.heap.size + 2, 1, none⟩ = some (.int .i64 x1)
 h2 : w.cell? ⟨w0.heap.size + 2, 2, none⟩ = some v
 r0 : w.cell? ⟨w0.heap.size, 0, none⟩ = some (.int .i64 0)
 r1 : w.cell? ⟨w0.heap.size, 1, none⟩ = some (.int .i64 0)
 r2 : w.cell? ⟨w0.heap.size, 2, none⟩ = some (.slice none 0 0)
 hf : ∀ o, o < 3 → w.frozen? ⟨w0.heap.size + 2, o, none⟩ = false ∧ w.frozen? ⟨w0.heap.size, o, none⟩ = false
theorem DeS.kp {w0 w w' : World} {b c : Nat} {L : List UInt8} {j j' : Nat} {x0 x1 : Int} {v : Value} {S : Nat → Prop} (h : DeS w0 w b c L j x0 x1 v) (k : Kp S w w') (rd : RdAt w' (w0.heap.size + 1) b c L j') (h0 : ∀ i, i < w0.heap.size → ¬ S i) (hs : ¬ S w0.heap.size) (hs2 : ¬ S (w0.heap.size + 2)) : DeS w0 w' b c L j' x0 x1 v :=
 have l0 : w0.heap.size < w.heap.size := by have := h.lt; omega
 ⟨((Kp.of_gr (fun _ => False) h.gr).trans k (fun i hi hS => h0 i hi hS)).gr (fun _ _ h => h), rd, Nat.lt_of_lt_of_le h.lt k.size, (k.cell (a := ⟨w0.heap.size + 2, 0, none⟩) h.lt hs2).trans h.h0, (k.cell (a := ⟨w0.heap.size + 2, 1, none⟩) h.lt hs2).trans h.h1, (k.cell (a := ⟨w0.heap.size + 2, 2, none⟩) h.lt hs2).trans h.h2,
  (k.cell (a := ⟨w0.heap.size, 0, none⟩) l0 hs).trans h.r0, (k.cell (a := ⟨w0.heap.size, 1, none⟩) l0 hs).trans h.r1, (k.cell (a := ⟨w0.heap.size, 2, none⟩) l0 hs).trans h.r2,
  fun o ho => ⟨(k.frozen (a := ⟨w0.heap.size + 2, o, none⟩) h.lt hs2).trans (h.hf o ho).1, (k.frozen (a := ⟨w0.heap.size, o, none⟩) l0 hs).trans (h.hf o ho).2⟩⟩
theorem DeS.gro {w0 w w' : World} {b c : Nat} {L : List UInt8} {j : Nat} {x0 x1 : Int} {v : Value} (h : DeS w0 w b c L j x0 x1 v) (g : Gr w w') : DeS w0 w' b c L j x0 x1 v :=
 h.kp (Kp.of_gr (fun _ => False) g) (h.rd.kp (Kp.of_gr (fun _ => False) g) (fun h => h)) (fun _ _ h => h) (fun h => h) (fun h => h)
/-- the three cells of the header, one stored. -/
theorem DeS.put {w0 w : World} {b c : Nat} {L : List UInt8} {j i : Nat} {x0 x1 y0 y1 : Int} {v y2 : Value} (h : DeS w0 w b c L j x0 x1 v) (u : Value)
  (hy : (i = 0 ∧ u = .int .i64 y0 ∧ y1 = x1 ∧ y2 = v) ∨ (i = 1 ∧ u = .int .i64 y1 ∧ y0 = x0 ∧ y2 = v) ∨ (i = 2 ∧ u = y2 ∧ y0 = x0 ∧ y1 = x1)) : DeS w0 (w.setCell ⟨w0.heap.size + 2, i, none⟩ u) b c L j y0 y1 y2 := by
 have k : Kp (fun q => q = w0.heap.size + 2) w (w.setCell ⟨w0.heap.size + 2, i, none⟩ u) := (Kp.refl _ _).set (.inl (show w0.heap.size + 2 = w0.heap.size + 2 from rfl)) _
 have l0 : w0.heap.size < w.heap.size := by have := h.lt; omega
 have rd := h.rd.kp k (show ¬ w0.heap.size + 1 = w0.heap.size + 2 by omega)
 have ho : ∀ o, o ≠ i → (w.setCell ⟨w0.heap.size + 2, i, none⟩ u).cell? ⟨w0.heap.size + 2, o, none⟩ = w.cell? ⟨w0.heap.size + 2, o, none⟩ := fun o ho => World.cell?_setCell_other w ⟨w0.heap.size + 2, i, none⟩ ⟨w0.heap.size + 2, o, none⟩ _ (by first | (simp [ho]; done) | (simp; omega))
 have hs : ∀ {t : Value}, w.cell? ⟨w0.heap.size + 2, i, none⟩ = some t → (w.setCell ⟨w0.heap.size + 2, i, none⟩ u).cell? ⟨w0.heap.size + 2, i, none⟩ = some u := fun e => World.cell?_setCell_same' _ _ _ (by rw [e]; rfl)
 have hr := fun o => k.cell (a := ⟨w0.heap.size, o, none⟩) l0 (show ¬ w0.heap.size = w0.heap.size + 2 by omega)
 refine ⟨((Kp.of_gr (fun _ => False) h.gr).trans k (fun q hq hS => by omega)).gr (fun _ _ h => h), rd, by simpa using h.lt, ?_, ?_, ?_, (hr 0).trans h.r0, (hr 1).trans h.r1, (hr 2).trans h.r2, fun o ho' => ⟨by rw [World.frozen?_setCell]; exact (h.hf o ho').1, by rw [World.frozen?_setCell]; exact (h.hf o ho').2⟩⟩
 ·
  rcases hy with ⟨rfl, rfl, -, -⟩ | ⟨rfl, -, rfl, -⟩ | ⟨rfl, -, rfl, -⟩
  ·
   exact hs h.h0
  ·
   exact (ho 0 (by decide)).trans h.h0
  ·
   exact (ho 0 (by decide)).trans h.h0
 ·
  rcases hy with ⟨rfl, -, rfl, -⟩ | ⟨rfl, rfl, -, -⟩ | ⟨rfl, -, -, rfl⟩
  ·
   exact (ho 1 (by decide)).trans h.h1
  ·
   exact hs h.h1
  ·
   exact (ho 1 (by decide)).trans h.h1
 ·
  rcases hy with ⟨rfl, -, -, rfl⟩ | ⟨rfl, -, -, rfl⟩ | ⟨rfl, rfl, -, -⟩
  ·
   exact (ho 2 (by decide)).trans h.h2
  ·
   exact (ho 2 (by decide)).trans h.h2
  ·
   exact hs h.h2
/-- the reader is asked. -/
theorem DeS.num {w0 w : World} {b c : Nat} {L : List UInt8} {j : Nat} {x0 x1 : Int} {v : Value} (h : DeS w0 w b c L j x0 x1 v) (hj : j ≤ 1000) (hL : (L.length : Int) ≤ 1073741824) (hc : L.length ≤ c) (hcb : (c : Int) ≤ 9223372036854775807) (hr : 4 ≤ L.length → Rb w0 (some ⟨b, 0, none⟩) L) (hb : b < w0.heap.size) :
  Calls Try.prog 56 #[.pointer (some ⟨w0.heap.size + 1, 0, none⟩)] w fun e w' => e = .returned (.int .i64 (numAt L j : Nat)) ∧ DeS w0 w' b c L (j + 1) x0 x1 v ∧ Kp (fun k => k = w0.heap.size + 1) w w' :=
 (rnum_any (w0.heap.size + 1) b c L j hj hL hc hcb w h.rd (fun h4 => (hr h4).gr h.gr) (by omega)).mono fun e w' ⟨he, hd, hk⟩ => ⟨he, h.kp hk hd (fun i hi h => by omega) (show ¬ w0.heap.size = w0.heap.size + 1 by omega) (show ¬ w0.heap.size + 2 = w0.heap.size + 1 by omega), hk⟩
end Go.Proofs.Ytoncapkmaeghfaa
