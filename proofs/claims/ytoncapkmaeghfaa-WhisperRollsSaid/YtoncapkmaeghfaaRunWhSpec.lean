/- Chapter 7 in plain Lean: numbers as bytes, points, places. No program in sight. · A region that draws its order, all of whose operations yield one value in every world of a class (here: all that was there is as it was): walked once, in the order of the text. Derived/Deep/Quiet.lean's law, one operation at a time. No program in sight. · Places and times of slots: slot.Align, slot.Place. · How great a file is: whead.size. · RegQ's region once more, its state behind a structure, so that Lean does not reckon a guard where nobody asks for it. No program in sight. · Whether an archive may stand behind another one: whead.fits. -/
import Derived.WalkKit
import Derived.Test.YtoncapkmaeghfaaRunFxBase
import Derived.Deep.Quiet
import Derived.Test.YtoncapkmaeghfaaProg
import Derived.Lib.Hide
import Derived.Deep.Cut
import Derived.Deep.CutRange
import Derived.Deep.Light
namespace Go.Proofs.Ytoncapkmaeghfaa
set_option linter.unusedVariables false
set_option linter.unusedSimpArgs false
open Go.RowKit

/-- a number in so many bytes, the highest first. -/
def beB (n : Nat) : Nat → List UInt8
 | 0 => []
 | k + 1 => (n / 256 ^ k % 256).toUInt8 :: beB n k
theorem beB_len (n : Nat) : ∀ k, (beB n k).length = k
 | 0 => rfl
 | k + 1 => by rw [beB, List.length_cons, beB_len n k]
/-- the number that bytes are. -/
def ofB (l : List UInt8) : Nat := l.foldl (fun n c => n * 256 + c.toNat) 0
theorem ofB_snoc (l : List UInt8) (c : UInt8) : ofB (l ++ [c]) = ofB l * 256 + c.toNat := by simp [ofB]
theorem foldl_ofB (l : List UInt8) : ∀ a : Nat, l.foldl (fun n c => n * 256 + c.toNat) a = a * 256 ^ l.length + ofB l := by
 induction l with
 | nil => intro a; simp [ofB]
 | cons c l ih =>
  intro a
  have e : ofB (c :: l) = c.toNat * 256 ^ l.length + ofB l := by
   show l.foldl (fun n c => n * 256 + c.toNat) (0 * 256 + c.toNat) = _
   rw [ih, Nat.zero_mul, Nat.zero_add]
  rw [List.foldl_cons, ih, e, List.length_cons, Nat.pow_succ, Nat.add_mul, Nat.mul_assoc a 256, Nat.mul_comm 256 (256 ^ l.length)]
  omega
theorem ofB_cons (c : UInt8) (l : List UInt8) : ofB (c :: l) = c.toNat * 256 ^ l.length + ofB l := by
 rw [ofB, List.foldl_cons, foldl_ofB]; simp
theorem ofB_lt : ∀ l : List UInt8, ofB l < 256 ^ l.length
 | [] => by simp [ofB]
 | c :: l => by
  rw [ofB_cons, List.length_cons, Nat.pow_succ]
  have h1 := ofB_lt l
  have h2 := c.toNat_lt
  have h3 : (c.toNat + 1) * 256 ^ l.length ≤ 256 * 256 ^ l.length := Nat.mul_le_mul_right _ (by omega)
  rw [Nat.add_mul, Nat.one_mul] at h3
  rw [Nat.mul_comm (256 ^ l.length) 256]
  omega
theorem toNat_mod (n : Nat) : (n % 256).toUInt8.toNat = n % 256 := by
 rw [Nat.toUInt8, UInt8.toNat_ofNat']
 exact Nat.mod_eq_of_lt (Nat.mod_lt _ (by decide))
theorem ofB_beB (n : Nat) : ∀ k, ofB (beB n k) = n % 256 ^ k
 | 0 => by simp [beB, ofB, Nat.mod_one]
 | k + 1 => by
  rw [beB, ofB_cons, ofB_beB n k, beB_len, toNat_mod, Nat.pow_succ]
  have := Nat.mod_mul (x := n) (a := 256 ^ k) (b := 256)
  rw [this, Nat.mul_comm (n / 256 ^ k % 256)]
  omega
theorem beB_ofB : ∀ l : List UInt8, beB (ofB l) l.length = l
 | [] => rfl
 | c :: l => by
  have key : ∀ (a : Nat) (m : List UInt8), beB (a * 256 ^ m.length + ofB m) m.length = beB (ofB m) m.length := by
   intro a m
   have h : ∀ k, k ≤ m.length → beB (a * 256 ^ m.length + ofB m) k = beB (ofB m) k := by
    intro k
    induction k with
    | zero => intro _; rfl
    | succ k ih =>
     intro hk
     rw [beB, beB, ih (by omega)]
     congr 2
     have e : a * 256 ^ m.length = 256 ^ k * (256 * (a * 256 ^ (m.length - (k + 1)))) := by
      have : 256 ^ m.length = 256 ^ k * 256 * 256 ^ (m.length - (k + 1)) := by
       rw [← Nat.pow_succ, ← Nat.pow_add]; congr 1; omega
      rw [this]
      simp only [Nat.mul_assoc, Nat.mul_left_comm a]
     rw [e, Nat.mul_add_div (Nat.pow_pos (by decide)), Nat.mul_add_mod]
   exact h _ (Nat.le_refl _)
  rw [ofB_cons, List.length_cons, beB, key, beB_ofB l]
  congr 1
  have hl := ofB_lt l
  have hp : 0 < 256 ^ l.length := Nat.pow_pos (by decide)
  rw [Nat.mul_comm, Nat.mul_add_div hp, Nat.div_eq_of_lt hl, Nat.add_zero, Nat.mod_eq_of_lt c.toNat_lt]
  simp [Nat.toUInt8]
/-- a time that four bytes take. -/
def at4 (t : Int) : Nat := (max 0 (min t 4294967295)).toNat
/-- a number as eight bytes take it. -/
def u64 (n : Int) : Nat := (n % 18446744073709551616).toNat
def i64 (n : Nat) : Int := if n < 9223372036854775808 then (n : Int) else (n : Int) - 18446744073709551616
/-- a point's bytes. -/
def encP (t n : Int) : List UInt8 := beB (at4 t) 4 ++ beB (u64 n) 8
theorem encP_len (t n : Int) : (encP t n).length = 12 := by rw [encP, List.length_append, beB_len, beB_len]
/-- the point that twelve bytes are. -/
def decT (l : List UInt8) : Int := (ofB (l.take 4) : Nat)
def decN (l : List UInt8) : Int := i64 (ofB (l.drop 4))
theorem u64_lt (n : Int) : u64 n < 18446744073709551616 := by unfold u64; omega
theorem i64_u64 {n : Int} (h : -9223372036854775808 ≤ n) (h' : n ≤ 9223372036854775807) : i64 (u64 n) = n := by
 unfold i64 u64
 split <;> omega
theorem decT_enc (t n : Int) : decT (encP t n) = (at4 t : Nat) := by
 unfold decT encP
 rw [List.take_left' (beB_len _ _), ofB_beB]
 have : at4 t < 256 ^ 4 := by
  have e : (256 : Nat) ^ 4 = 4294967296 := by decide
  rw [e]
  unfold at4
  omega
 rw [Nat.mod_eq_of_lt this]
theorem decN_enc (t n : Int) (h : -9223372036854775808 ≤ n) (h' : n ≤ 9223372036854775807) : decN (encP t n) = n := by
 unfold decN encP
 rw [List.drop_left' (beB_len _ _), ofB_beB]
 have : u64 n < 256 ^ 8 := by
  have e : (256 : Nat) ^ 8 = 18446744073709551616 := by decide
  rw [e]; exact u64_lt n
 rw [Nat.mod_eq_of_lt this, i64_u64 h h']
/-- the greatest multiple of a step that is not above a time. -/
def alignS (t step : Int) : Int := if step < 1 ∨ t < 0 then t else t - t % step
/-- the slot of a time. -/
def placeS (step count t : Int) : Int := if step < 1 ∨ count < 1 ∨ t < 0 then 0 else t / step % count
theorem alignS_of {t step : Int} (h : 1 ≤ step) (h' : 0 ≤ t) : alignS t step = t - t % step := by unfold alignS; rw [if_neg (by omega)]
theorem placeS_of {t step count : Int} (h : 1 ≤ step) (h1 : 1 ≤ count) (h' : 0 ≤ t) : placeS step count t = t / step % count := by unfold placeS; rw [if_neg (by omega)]
theorem placeS_lt {t step count : Int} (h1 : 1 ≤ count) : 0 ≤ placeS step count t ∧ placeS step count t < count := by
 unfold placeS
 split
 ·
  omega
 ·
  exact ⟨Int.emod_nonneg _ (by omega), Int.emod_lt_of_pos _ (by omega)⟩
end Go.Proofs.Ytoncapkmaeghfaa
namespace Go.Proofs.Ytoncapkmaeghfaa
set_option linter.unusedVariables false
set_option linter.unusedSimpArgs false
open Go

section
variable {P : Program} {ops : Array Oper} {C : World → Prop} {Q : Act → Prop} {o : Oper} {rest : List Oper} {a : Act}
theorem q_val {v : Value} (hw : Region.wanted o (yielded ops a.tmps) = true) (h : ∀ W, C W → (execOp a.eval o).run P W = .ok (.value v) W) (hr : wpQuiet P ops C Q rest (a.put o.dst v)) :
  wpQuiet P ops C Q (o :: rest) a := by
 unfold wpQuiet
 rw [if_pos hw]
 exact ⟨v, fun W hW => by unfold Oper.quietAt; rw [h W hW]; exact ⟨rfl, rfl⟩, hr⟩
theorem q_call {v : Value} {f : FuncId} {args : Array Value} (hw : Region.wanted o (yielded ops a.tmps) = true) (h : ∀ W, C W → (execOp a.eval o).run P W = .ok (.enter f args) W)
  (hc : ∀ W, C W → Calls P f args W fun e w' => e = .returned v ∧ C w') (hr : wpQuiet P ops C Q rest (a.put o.dst v)) : wpQuiet P ops C Q (o :: rest) a := by
 unfold wpQuiet
 rw [if_pos hw]
 exact ⟨v, fun W hW => by unfold Oper.quietAt; rw [h W hW]; exact ⟨rfl, hc W hW⟩, hr⟩
theorem q_skip (hw : Region.wanted o (yielded ops a.tmps) = false) (hr : wpQuiet P ops C Q rest (a.put o.dst undef)) : wpQuiet P ops C Q (o :: rest) a := by
 unfold wpQuiet
 rw [if_neg (by rw [hw]; decide)]
 exact hr
/-- the beginning: at the class 'all that was there is as it was'. -/
theorem region_Q {id : Nat} {R : Exit → Act → World → Prop} {w : World} {l : List Oper} (hm : P.follows .mixedOrders = true) (hB : Region.lexB .any l.toArray = true)
  (h : wpQuiet P l.toArray (fun W => Gr w W) (fun a' => ∀ w', Gr w w' → R .normal a' w') l a) : (Code.region id l.toArray true).wp P R a w :=
 wp_region_quiet (C := fun W => Gr w W) hm hB (Gr.drew (Gr.refl w)) (by simpa using h)
end
end Go.Proofs.Ytoncapkmaeghfaa
namespace Go.Proofs.Ytoncapkmaeghfaa
set_option linter.unusedVariables false
set_option linter.unusedSimpArgs false
open Go.RowKit

theorem emod_le' {t step : Int} (h : 0 ≤ t) (h1 : 1 ≤ step) : t % step ≤ t := by
 have e := Int.emod_add_mul_ediv t step
 have := Int.mul_nonneg (show 0 ≤ step by omega) (Int.ediv_nonneg h (show 0 ≤ step by omega))
 omega
set_option maxRecDepth 100000 in
set_option maxHeartbeats 1600000 in
theorem align_any (t step : Int) (ht : t ≤ 9223372036854775807) (w : World) : Calls Try.prog 28 #[.int .i64 t, .int .i64 step] w fun e w' => e = .returned (.int .i64 (alignS t step)) ∧ w = w' := by
 by_cases h1 : step < 1
 ·
  have e : alignS t step = t := by unfold alignS; rw [if_pos (.inl h1)]
  rw [e]
  go_enter Try.func28, Try.ntmps28
  go_wp2
  go_ret
  exact ⟨rfl, rfl⟩
 ·
  by_cases h2 : t < 0
  ·
   have e : alignS t step = t := by unfold alignS; rw [if_pos (.inr h2)]
   rw [e]
   go_enter Try.func28, Try.ntmps28
   go_wp2
   go_ret
   exact ⟨rfl, rfl⟩
  ·
   have e : alignS t step = t - t % step := alignS_of (by omega) (by omega)
   have hm : t.tmod step = t % step := Int.tmod_eq_emod_of_nonneg (by omega)
   have h3 : 0 ≤ t % step := Int.emod_nonneg _ (by omega)
   have h4 : t % step ≤ t := emod_le' (by omega) (by omega)
   have hz : ¬ step = 0 := by omega
   have hw : wrap64 (t - t % step) = t - t % step := IntWalk.wrap64_in _ (by omega)
   rw [e]
   go_enter Try.func28, Try.ntmps28
   go_wp2
   go_ret
   exact ⟨rfl, rfl⟩
set_option maxRecDepth 100000 in
set_option maxHeartbeats 1600000 in
theorem place_any (step count t : Int) (ht : t ≤ 9223372036854775807) (hs : step ≤ 9223372036854775807) (hc : count ≤ 9223372036854775807) (w : World) : Calls Try.prog 63 #[.agg #[.int .i64 step, .int .i64 count], .int .i64 t] w fun e w' => e = .returned (.int .i64 (placeS step count t)) ∧ Gr w w' := by
 by_cases h1 : step < 1
 ·
  have e : placeS step count t = 0 := by unfold placeS; rw [if_pos (.inl h1)]
  rw [e]
  go_enter Try.func63, Try.ntmps63
  go_wp2
  go_ret
  exact ⟨rfl, Gr.alloc (Gr.refl w) _⟩
 ·
  by_cases h2 : count < 1
  ·
   have e : placeS step count t = 0 := by unfold placeS; rw [if_pos (.inr (.inl h2))]
   rw [e]
   go_enter Try.func63, Try.ntmps63
   go_wp2
   go_ret
   exact ⟨rfl, Gr.alloc (Gr.refl w) _⟩
  ·
   by_cases h3 : t < 0
   ·
    have e : placeS step count t = 0 := by unfold placeS; rw [if_pos (.inr (.inr h3))]
    rw [e]
    go_enter Try.func63, Try.ntmps63
    go_wp2
    go_ret
    exact ⟨rfl, Gr.alloc (Gr.refl w) _⟩
   ·
    have e : placeS step count t = t / step % count := placeS_of (by omega) (by omega) (by omega)
    have hd : t.tdiv step = t / step := Int.tdiv_eq_ediv_of_nonneg (by omega)
    have hq : 0 ≤ t / step := Int.ediv_nonneg (by omega) (by omega)
    have hm : (t / step).tmod count = t / step % count := Int.tmod_eq_emod_of_nonneg hq
    have hz : ¬ step = 0 := by omega
    have hzc : ¬ count = 0 := by omega
    have hle : t / step ≤ t := Int.ediv_le_self _ (by omega)
    have hw1 : IntKind.i64.wrap (t / step) = t / step := IntWalk.i64_in _ (by omega)
    have hr0 : 0 ≤ t / step % count := Int.emod_nonneg _ (by omega)
    have hr1 : t / step % count < count := Int.emod_lt_of_pos _ (by omega)
    have hw2 : IntKind.i64.wrap (t / step % count) = t / step % count := IntWalk.i64_in _ (by omega)
    rw [e]
    go_enter Try.func63, Try.ntmps63
    go_upto_region 3 with (fail)
    have b0 : (w.alloc (.cells #[.int .i64 step, .int .i64 count] 30)).cell? ⟨w.heap.size, 0, none⟩ = some (.int .i64 step) := by go_simp
    have b1 : (w.alloc (.cells #[.int .i64 step, .int .i64 count] 30)).cell? ⟨w.heap.size, 1, none⟩ = some (.int .i64 count) := by go_simp
    refine region_Q (by kernel_rfl) (by kernel_rfl) ?_
    iterate 2 (refine q_val (v := ?_) (by rfl) (fun W hW => ?_) ?_; rotate_left; (focus go_simp; rfl); simp only [Pu])
    refine q_val (v := ?qv3) (by rfl) (fun W hW => ?qh3) ?qr3
    case qh3 => have g := (Below.cell hW (p := ⟨w.heap.size, 0, none⟩) (by show w.heap.size < _; simp)).trans b0; go_simp; rfl
    simp only [Pu]
    iterate 2 (refine q_val (v := ?_) (by rfl) (fun W hW => ?_) ?_; rotate_left; (focus go_simp; rfl); simp only [Pu])
    refine q_val (v := ?qv6) (by rfl) (fun W hW => ?qh6) ?qr6
    case qh6 => have g := (Below.cell hW (p := ⟨w.heap.size, 1, none⟩) (by show w.heap.size < _; simp)).trans b1; go_simp; rfl
    simp only [Pu]
    iterate 2 (refine q_val (v := ?_) (by rfl) (fun W hW => ?_) ?_; rotate_left; (focus go_simp; rfl); simp only [Pu])
    refine wpQuiet_nil ?_
    intro w8 hw8
    have g8 : Gr w w8 := (Gr.alloc (Gr.refl w) _).trans hw8
    clear hw8 b0 b1
    go_wp2
    go_ret
    exact ⟨rfl, g8⟩
end Go.Proofs.Ytoncapkmaeghfaa
namespace Go.Proofs.Ytoncapkmaeghfaa
set_option linter.unusedVariables false
set_option linter.unusedSimpArgs false
open Go.RowKit

theorem ints_at (l : List (Nat × Nat)) (k : Nat) (h : k < l.length) {h' : k < (ints l).length} : (ints l)[k] = ((l[k].1 : Int), (l[k].2 : Int)) := by simp [ints]
set_option maxRecDepth 100000 in
set_option maxHeartbeats 6400000 in
theorem whead_size (ag xf : Int) (A : Option Addr) (c : Nat) (l : List (Nat × Nat)) (hl : l.length ≤ 8) (h2 : ∀ a ∈ l, a.2 ≤ 16777216) (w : World) (hr : Ri w A (ints l)) : Calls Try.prog 40 #[.agg #[.int .i64 ag, .int .i64 xf, .slice A l.length c]] w fun e w' => e = .returned (.int .i64 (sizeS l : Nat)) ∧ Gr w w' := by
 have hli : (l.length : Int) ≤ 8 := by omega
 obtain ⟨V, hV⟩ : ∃ V, V = w.alloc (.cells #[.int .i64 ag, .int .i64 xf, .slice A l.length c] 24) := ⟨_, rfl⟩
 have gV : Gr w V := by rw [hV]; exact Gr.alloc (Gr.refl w) _
 have hz : w.heap.size < V.heap.size := by rw [hV]; simp
 have c2 : V.cell? ⟨w.heap.size, 2, none⟩ = some (.slice A l.length c) := by rw [hV]; go_simp
 have HV := Lib.hid hV
 have HG := Lib.hid gV
 have HR := Lib.hid (hr.gr gV)
 have HB := Lib.hid (And.intro hl h2)
 clear hV gV hr hl h2
 go_enter Try.func40, Try.ntmps40
 go_upto_region 1 with (fail)
 rw [← HV.out]
 clear HV
 go_wp2
 go_loopw [9, 3] (fun i n wr => ∃ k : Nat, k ≤ l.length ∧ i = .int .i64 k ∧ n = .int .i64 (sizeS (l.take k) : Nat) ∧ Gr V wr) (fun i _ _ => l.length - (intOf i).toNat)
 case atStart => exact ⟨0, Nat.zero_le _, rfl, rfl, Gr.refl _⟩
 case round =>
  obtain ⟨k, hk, rfl, rfl, hgr⟩ := hrel
  by_cases hlt : k < l.length
  ·
   have hlt' : (k : Int) < (l.length : Int) := by omega
   obtain ⟨b, rfl, hb, hc⟩ := (HR.out.gr hgr) (by rw [ints_len]; omega)
   obtain ⟨d0, d1⟩ := hc k (by rw [ints_len]; exact hlt)
   rw [ints_at l k hlt] at d0 d1
   simp only at d0 d1
   have hs := sizeS_take hlt
   have hb1 := HB.out.2 l[k] (List.getElem_mem hlt)
   have hb2 := sizeS_bound (l.take (k + 1)) (fun a ha => HB.out.2 a (List.mem_of_mem_take ha))
   rw [List.length_take, Nat.min_eq_left (by omega)] at hb2
   have HS := Lib.hid hs
   have Hgr := Lib.hid hgr
   generalize l[k].1 = x1 at *
   generalize l[k].2 = x2 at *
   obtain ⟨N, hN⟩ : ∃ N, N = sizeS (l.take k) := ⟨_, rfl⟩
   rw [← hN] at HS ⊢
   have hNi : (N : Int) + (12 + 12 * (x2 : Int)) ≤ 2000000000 := by have := HS.out; omega
   have hx2 : (x2 : Int) ≤ 16777216 := by omega
   clear hc hs hb1 hb2 hgr hN
   go_wp2
   go_roundw
   case rel => exact ⟨k + 1, by omega, by go_num, by rw [HS.out]; go_num, (by repeat (first | exact Gr.refl _ | refine Gr.alloc ?_ _ | refine Gr.drew ?_ | refine Gr.setCell ?_ (by first | (simp; done) | (simp; omega) | omega) _ | refine Gr.trans ?_ (by assumption)))⟩
   case measure => simp [intOf]; omega
  ·
   have hkk : k = l.length := by omega
   subst hkk
   have HK := Lib.hid hgr
   clear hgr
   go_wp2
   go_ret
   exact ⟨ret_i (by rw [List.take_length]), HG.out.trans HK.out⟩
end Go.Proofs.Ytoncapkmaeghfaa
namespace Go.Proofs.Ytoncapkmaeghfaa
set_option linter.unusedVariables false
set_option linter.unusedSimpArgs false
open Go

structure WQ (P : Program) (ops : Array Oper) (C : World → Prop) (Q : Act → Prop) (l : List Oper) (a : Act) : Prop where
 out : wpQuiet P ops C Q l a
section
variable {P : Program} {ops : Array Oper} {C : World → Prop} {Q : Act → Prop} {o : Oper} {rest : List Oper} {a : Act}
theorem r_val {v : Value} (hw : Region.wanted o (yielded ops a.tmps) = true) (h : ∀ W, C W → (execOp a.eval o).run P W = .ok (.value v) W) (hr : WQ P ops C Q rest (a.put o.dst v)) :
  WQ P ops C Q (o :: rest) a := ⟨q_val hw h hr.out⟩
theorem r_call {v : Value} {f : FuncId} {args : Array Value} (hw : Region.wanted o (yielded ops a.tmps) = true) (h : ∀ W, C W → (execOp a.eval o).run P W = .ok (.enter f args) W)
  (hc : ∀ W, C W → Calls P f args W fun e w' => e = .returned v ∧ C w') (hr : WQ P ops C Q rest (a.put o.dst v)) : WQ P ops C Q (o :: rest) a := ⟨q_call hw h hc hr.out⟩
theorem r_skip (hw : Region.wanted o (yielded ops a.tmps) = false) (hr : WQ P ops C Q rest (a.put o.dst undef)) : WQ P ops C Q (o :: rest) a := ⟨q_skip hw hr.out⟩
theorem r_nil (h : Q a) : WQ P ops C Q [] a := ⟨wpQuiet_nil h⟩
theorem wanted_none (h : o.guard = none) (y : Nat → Option Bool) : Region.wanted o y = true := by simp [Region.wanted, h]
theorem wanted_some {i : Nat} {b : Bool} (h : o.guard = some (i, b)) {oi : Oper} (hi : ops[i]? = some oi) {d : Tmp} (hd : oi.dst = some d) {c : Bool} (hv : a.tmps[d]? = some (.bool c)) :
  Region.wanted o (yielded ops a.tmps) = (c == b) := by
 simp only [Region.wanted, h, yielded, hi, hd, hv, Option.bind_some]
 cases b <;> cases c <;> rfl
theorem region_R {id : Nat} {R : Exit → Act → World → Prop} {w : World} {l : List Oper} (hm : P.follows .mixedOrders = true) (hB : Region.lexB .any l.toArray = true)
  (h : WQ P l.toArray (fun W => Gr w W) (fun a' => ∀ w', Gr w w' → R .normal a' w') l a) : (Code.region id l.toArray true).wp P R a w := region_Q hm hB h.out
end
end Go.Proofs.Ytoncapkmaeghfaa
namespace Go.Proofs.Ytoncapkmaeghfaa
set_option linter.unusedVariables false
set_option linter.unusedSimpArgs false
open Go.RowKit

set_option maxRecDepth 100000 in
set_option maxHeartbeats 6400000 in
theorem whead_fits (x y : Nat × Nat) (hx : oneOk x = true) (hy : oneOk y = true) (w : World) : Calls Try.prog 50 #[.agg #[.int .i64 x.1, .int .i64 x.2], .agg #[.int .i64 y.1, .int .i64 y.2]] w fun e w' => e = .returned (.bool (fitsS x y)) ∧ Gr w w' := by
 obtain ⟨x1, x2⟩ := x
 obtain ⟨y1, y2⟩ := y
 obtain ⟨hx1, hx2, hx3, hx4⟩ := oneOk_iff.1 hx
 obtain ⟨hy1, hy2, hy3, hy4⟩ := oneOk_iff.1 hy
 simp only at hx1 hx2 hx3 hx4 hy1 hy2 hy3 hy4 ⊢
 obtain ⟨F, hF⟩ : ∃ F, F = fitsS (x1, x2) (y1, y2) := ⟨_, rfl⟩
 rw [← hF]
 have hFF := fits_int (x1 : Int) x2 y1 y2 (by omega) (by omega) (by omega) (by omega)
 have hm1 := prod_small (x1 : Int) x2 (by omega) (by omega) (by omega) (by omega)
 have hm2 := prod_small (y1 : Int) y2 (by omega) (by omega) (by omega) (by omega)
 have hfi : fitsS (x1, x2) (y1, y2) = (decide ((x1 : Int) < y1) && (((y1 : Int) % x1) == 0) && decide ((x1 : Int) * x2 < (y1 : Int) * y2) && decide ((y1 : Int) / x1 ≤ x2)) := fits_eq _ _ _ _
 rw [hfi] at hF
 have HF := Lib.hid hF
 obtain ⟨X1, hX1⟩ : ∃ X : Int, X = x1 := ⟨_, rfl⟩
 obtain ⟨X2, hX2⟩ : ∃ X : Int, X = x2 := ⟨_, rfl⟩
 obtain ⟨Y1, hY1⟩ : ∃ X : Int, X = y1 := ⟨_, rfl⟩
 obtain ⟨Y2, hY2⟩ : ∃ X : Int, X = y2 := ⟨_, rfl⟩
 have a1 : 1 ≤ X1 ∧ X1 ≤ 16777216 := by omega
 have a2 : 1 ≤ X2 ∧ X2 ≤ 16777216 := by omega
 have a3 : 1 ≤ Y1 ∧ Y1 ≤ 16777216 := by omega
 have a4 : 1 ≤ Y2 ∧ Y2 ≤ 16777216 := by omega
 simp only [← hX1, ← hX2, ← hY1, ← hY2] at HF hFF hm1 hm2 ⊢
 clear hX1 hX2 hY1 hY2 hF hfi hx hy hx1 hx2 hx3 hx4 hy1 hy2 hy3 hy4
 obtain ⟨V, hV⟩ : ∃ V, V = (w.alloc (.cells #[.int .i64 X1, .int .i64 X2] 30)).alloc (.cells #[.int .i64 Y1, .int .i64 Y2] 30) := ⟨_, rfl⟩
 have gV : Gr w V := by rw [hV]; exact Gr.alloc (Gr.alloc (Gr.refl w) _) _
 have hzx : w.heap.size < V.heap.size := by rw [hV]; simp; omega
 have hzy : w.heap.size + 1 < V.heap.size := by rw [hV]; simp
 have cx0 : V.cell? ⟨w.heap.size, 0, none⟩ = some (.int .i64 X1) := by rw [hV]; go_simp
 have cx1 : V.cell? ⟨w.heap.size, 1, none⟩ = some (.int .i64 X2) := by rw [hV]; go_simp
 have cy0 : V.cell? ⟨w.heap.size + 1, 0, none⟩ = some (.int .i64 Y1) := by rw [hV]; go_simp
 have cy1 : V.cell? ⟨w.heap.size + 1, 1, none⟩ = some (.int .i64 Y2) := by rw [hV]; go_simp
 have HV := Lib.hid hV
 have HG := Lib.hid gV
 clear hV gV
 obtain ⟨q1, q2, q3, q4⟩ := hFF
 by_cases h1 : X1 < Y1
 ·
  have e1 : decide (X1 < Y1) = true := decide_eq_true h1
  cases h2 : (Y1 % X1 == 0)
  ·
   clear q1 q3 hm1 hm2
   go_enter Try.func50, Try.ntmps50
   go_upto_region 1 with (fail)
   rw [← HV.out]
   clear HV
   refine region_R (by kernel_rfl) (by kernel_rfl) ?_
   refine r_val (v := ?_) (by kernel_rfl) (fun W hW => ?_) ?_; rotate_left; (focus go_light; go_simp; rfl); simp only [Pu]
   refine r_val (v := ?qv2) (by kernel_rfl) (fun W hW => ?qh2) ?qr2
   case qh2 => have g := (Below.cell hW (p := ⟨w.heap.size + 1, 0, none⟩) hzy).trans cy0; go_light; go_simp; rfl
   simp only [Pu]
   refine r_val (v := ?_) (by kernel_rfl) (fun W hW => ?_) ?_; rotate_left; (focus go_light; go_simp; rfl); simp only [Pu]
   refine r_val (v := ?qv4) (by kernel_rfl) (fun W hW => ?qh4) ?qr4
   case qh4 => have g := (Below.cell hW (p := ⟨w.heap.size, 0, none⟩) hzx).trans cx0; go_light; go_simp; rfl
   simp only [Pu]
   iterate 3 (refine r_val (v := ?_) (by kernel_rfl) (fun W hW => ?_) ?_; rotate_left; (focus go_light; go_simp; rfl); simp only [Pu])
   refine r_val (v := ?qv8) (by kernel_rfl) (fun W hW => ?qh8) ?qr8
   case qh8 => have g := (Below.cell hW (p := ⟨w.heap.size + 1, 0, none⟩) hzy).trans cy0; go_light; go_simp; rfl
   simp only [Pu]
   refine r_val (v := ?_) (by kernel_rfl) (fun W hW => ?_) ?_; rotate_left; (focus go_light; go_simp; rfl); simp only [Pu]
   refine r_val (v := ?qv10) (by kernel_rfl) (fun W hW => ?qh10) ?qr10
   case qh10 => have g := (Below.cell hW (p := ⟨w.heap.size, 0, none⟩) hzx).trans cx0; go_light; go_simp; rfl
   simp only [Pu]
   iterate 4 (refine r_val (v := ?_) (by kernel_rfl) (fun W hW => ?_) ?_; rotate_left; (focus go_light; go_simp; rfl); simp only [Pu])
   iterate 11 (refine r_skip (by kernel_rfl) ?_; simp only [Pu])
   iterate 2 (refine r_val (v := ?_) (by kernel_rfl) (fun W hW => ?_) ?_; rotate_left; (focus go_light; go_simp; rfl); simp only [Pu])
   iterate 8 (refine r_skip (by kernel_rfl) ?_; simp only [Pu])
   iterate 2 (refine r_val (v := ?_) (by kernel_rfl) (fun W hW => ?_) ?_; rotate_left; (focus go_light; go_simp; rfl); simp only [Pu])
   refine r_nil ?_
   intro w8 hw8
   go_wp2
   go_ret
   exact ⟨ret_b (by rw [HF.out, e1, h2]; rfl), HG.out.trans hw8⟩
  ·
   by_cases h3 : X1 * X2 < Y1 * Y2
   ·
    have e3 : decide (X1 * X2 < Y1 * Y2) = true := decide_eq_true h3
    by_cases h4 : Y1 / X1 ≤ X2
    ·
     have e4 : decide (Y1 / X1 ≤ X2) = true := decide_eq_true h4
     go_enter Try.func50, Try.ntmps50
     go_upto_region 1 with (fail)
     rw [← HV.out]
     clear HV
     refine region_R (by kernel_rfl) (by kernel_rfl) ?_
     refine r_val (v := ?_) (by kernel_rfl) (fun W hW => ?_) ?_; rotate_left; (focus go_light; go_simp; rfl); simp only [Pu]
     refine r_val (v := ?qv20) (by kernel_rfl) (fun W hW => ?qh20) ?qr20
     case qh20 => have g := (Below.cell hW (p := ⟨w.heap.size + 1, 0, none⟩) hzy).trans cy0; go_light; go_simp; rfl
     simp only [Pu]
     refine r_val (v := ?_) (by kernel_rfl) (fun W hW => ?_) ?_; rotate_left; (focus go_light; go_simp; rfl); simp only [Pu]
     refine r_val (v := ?qv22) (by kernel_rfl) (fun W hW => ?qh22) ?qr22
     case qh22 => have g := (Below.cell hW (p := ⟨w.heap.size, 0, none⟩) hzx).trans cx0; go_light; go_simp; rfl
     simp only [Pu]
     iterate 3 (refine r_val (v := ?_) (by kernel_rfl) (fun W hW => ?_) ?_; rotate_left; (focus go_light; go_simp; rfl); simp only [Pu])
     refine r_val (v := ?qv26) (by kernel_rfl) (fun W hW => ?qh26) ?qr26
     case qh26 => have g := (Below.cell hW (p := ⟨w.heap.size + 1, 0, none⟩) hzy).trans cy0; go_light; go_simp; rfl
     simp only [Pu]
     refine r_val (v := ?_) (by kernel_rfl) (fun W hW => ?_) ?_; rotate_left; (focus go_light; go_simp; rfl); simp only [Pu]
     refine r_val (v := ?qv28) (by kernel_rfl) (fun W hW => ?qh28) ?qr28
     case qh28 => have g := (Below.cell hW (p := ⟨w.heap.size, 0, none⟩) hzx).trans cx0; go_light; go_simp; rfl
     simp only [Pu]
     iterate 5 (refine r_val (v := ?_) (by kernel_rfl) (fun W hW => ?_) ?_; rotate_left; (focus go_light; go_simp; rfl); simp only [Pu])
     refine r_val (v := ?qv34) (by kernel_rfl) (fun W hW => ?qh34) ?qr34
     case qh34 => have g := (Below.cell hW (p := ⟨w.heap.size + 1, 0, none⟩) hzy).trans cy0; go_light; go_simp; rfl
     simp only [Pu]
     refine r_val (v := ?_) (by kernel_rfl) (fun W hW => ?_) ?_; rotate_left; (focus go_light; go_simp; rfl); simp only [Pu]
     refine r_val (v := ?qv36) (by kernel_rfl) (fun W hW => ?qh36) ?qr36
     case qh36 => have g := (Below.cell hW (p := ⟨w.heap.size + 1, 1, none⟩) hzy).trans cy1; go_light; go_simp; rfl
     simp only [Pu]
     iterate 2 (refine r_val (v := ?_) (by kernel_rfl) (fun W hW => ?_) ?_; rotate_left; (focus go_light; go_simp; rfl); simp only [Pu])
     refine r_val (v := ?qv39) (by kernel_rfl) (fun W hW => ?qh39) ?qr39
     case qh39 => have g := (Below.cell hW (p := ⟨w.heap.size, 0, none⟩) hzx).trans cx0; go_light; go_simp; rfl
     simp only [Pu]
     refine r_val (v := ?_) (by kernel_rfl) (fun W hW => ?_) ?_; rotate_left; (focus go_light; go_simp; rfl); simp only [Pu]
     refine r_val (v := ?qv41) (by kernel_rfl) (fun W hW => ?qh41) ?qr41
     case qh41 => have g := (Below.cell hW (p := ⟨w.heap.size, 1, none⟩) hzx).trans cx1; go_light; go_simp; rfl
     simp only [Pu]
     iterate 5 (refine r_val (v := ?_) (by kernel_rfl) (fun W hW => ?_) ?_; rotate_left; (focus go_light; go_simp; rfl); simp only [Pu])
     refine r_val (v := ?qv47) (by kernel_rfl) (fun W hW => ?qh47) ?qr47
     case qh47 => have g := (Below.cell hW (p := ⟨w.heap.size, 1, none⟩) hzx).trans cx1; go_light; go_simp; rfl
     simp only [Pu]
     refine r_val (v := ?_) (by kernel_rfl) (fun W hW => ?_) ?_; rotate_left; (focus go_light; go_simp; rfl); simp only [Pu]
     refine r_val (v := ?qv49) (by kernel_rfl) (fun W hW => ?qh49) ?qr49
     case qh49 => have g := (Below.cell hW (p := ⟨w.heap.size + 1, 0, none⟩) hzy).trans cy0; go_light; go_simp; rfl
     simp only [Pu]
     refine r_val (v := ?_) (by kernel_rfl) (fun W hW => ?_) ?_; rotate_left; (focus go_light; go_simp; rfl); simp only [Pu]
     refine r_val (v := ?qv51) (by kernel_rfl) (fun W hW => ?qh51) ?qr51
     case qh51 => have g := (Below.cell hW (p := ⟨w.heap.size, 0, none⟩) hzx).trans cx0; go_light; go_simp; rfl
     simp only [Pu]
     iterate 4 (refine r_val (v := ?_) (by kernel_rfl) (fun W hW => ?_) ?_; rotate_left; (focus go_light; go_simp; rfl); simp only [Pu])
     refine r_nil ?_
     intro w8 hw8
     go_wp2
     go_ret
     exact ⟨ret_b (by rw [HF.out, e1, h2, e3, e4]; rfl), HG.out.trans hw8⟩
    ·
     have e4 : decide (Y1 / X1 ≤ X2) = false := decide_eq_false h4
     go_enter Try.func50, Try.ntmps50
     go_upto_region 1 with (fail)
     rw [← HV.out]
     clear HV
     refine region_R (by kernel_rfl) (by kernel_rfl) ?_
     refine r_val (v := ?_) (by kernel_rfl) (fun W hW => ?_) ?_; rotate_left; (focus go_light; go_simp; rfl); simp only [Pu]
     refine r_val (v := ?qv57) (by kernel_rfl) (fun W hW => ?qh57) ?qr57
     case qh57 => have g := (Below.cell hW (p := ⟨w.heap.size + 1, 0, none⟩) hzy).trans cy0; go_light; go_simp; rfl
     simp only [Pu]
     refine r_val (v := ?_) (by kernel_rfl) (fun W hW => ?_) ?_; rotate_left; (focus go_light; go_simp; rfl); simp only [Pu]
     refine r_val (v := ?qv59) (by kernel_rfl) (fun W hW => ?qh59) ?qr59
     case qh59 => have g := (Below.cell hW (p := ⟨w.heap.size, 0, none⟩) hzx).trans cx0; go_light; go_simp; rfl
     simp only [Pu]
     iterate 3 (refine r_val (v := ?_) (by kernel_rfl) (fun W hW => ?_) ?_; rotate_left; (focus go_light; go_simp; rfl); simp only [Pu])
     refine r_val (v := ?qv63) (by kernel_rfl) (fun W hW => ?qh63) ?qr63
     case qh63 => have g := (Below.cell hW (p := ⟨w.heap.size + 1, 0, none⟩) hzy).trans cy0; go_light; go_simp; rfl
     simp only [Pu]
     refine r_val (v := ?_) (by kernel_rfl) (fun W hW => ?_) ?_; rotate_left; (focus go_light; go_simp; rfl); simp only [Pu]
     refine r_val (v := ?qv65) (by kernel_rfl) (fun W hW => ?qh65) ?qr65
     case qh65 => have g := (Below.cell hW (p := ⟨w.heap.size, 0, none⟩) hzx).trans cx0; go_light; go_simp; rfl
     simp only [Pu]
     iterate 5 (refine r_val (v := ?_) (by kernel_rfl) (fun W hW => ?_) ?_; rotate_left; (focus go_light; go_simp; rfl); simp only [Pu])
     refine r_val (v := ?qv71) (by kernel_rfl) (fun W hW => ?qh71) ?qr71
     case qh71 => have g := (Below.cell hW (p := ⟨w.heap.size + 1, 0, none⟩) hzy).trans cy0; go_light; go_simp; rfl
     simp only [Pu]
     refine r_val (v := ?_) (by kernel_rfl) (fun W hW => ?_) ?_; rotate_left; (focus go_light; go_simp; rfl); simp only [Pu]
     refine r_val (v := ?qv73) (by kernel_rfl) (fun W hW => ?qh73) ?qr73
     case qh73 => have g := (Below.cell hW (p := ⟨w.heap.size + 1, 1, none⟩) hzy).trans cy1; go_light; go_simp; rfl
     simp only [Pu]
     iterate 2 (refine r_val (v := ?_) (by kernel_rfl) (fun W hW => ?_) ?_; rotate_left; (focus go_light; go_simp; rfl); simp only [Pu])
     refine r_val (v := ?qv76) (by kernel_rfl) (fun W hW => ?qh76) ?qr76
     case qh76 => have g := (Below.cell hW (p := ⟨w.heap.size, 0, none⟩) hzx).trans cx0; go_light; go_simp; rfl
     simp only [Pu]
     refine r_val (v := ?_) (by kernel_rfl) (fun W hW => ?_) ?_; rotate_left; (focus go_light; go_simp; rfl); simp only [Pu]
     refine r_val (v := ?qv78) (by kernel_rfl) (fun W hW => ?qh78) ?qr78
     case qh78 => have g := (Below.cell hW (p := ⟨w.heap.size, 1, none⟩) hzx).trans cx1; go_light; go_simp; rfl
     simp only [Pu]
     iterate 5 (refine r_val (v := ?_) (by kernel_rfl) (fun W hW => ?_) ?_; rotate_left; (focus go_light; go_simp; rfl); simp only [Pu])
     refine r_val (v := ?qv84) (by kernel_rfl) (fun W hW => ?qh84) ?qr84
     case qh84 => have g := (Below.cell hW (p := ⟨w.heap.size, 1, none⟩) hzx).trans cx1; go_light; go_simp; rfl
     simp only [Pu]
     refine r_val (v := ?_) (by kernel_rfl) (fun W hW => ?_) ?_; rotate_left; (focus go_light; go_simp; rfl); simp only [Pu]
     refine r_val (v := ?qv86) (by kernel_rfl) (fun W hW => ?qh86) ?qr86
     case qh86 => have g := (Below.cell hW (p := ⟨w.heap.size + 1, 0, none⟩) hzy).trans cy0; go_light; go_simp; rfl
     simp only [Pu]
     refine r_val (v := ?_) (by kernel_rfl) (fun W hW => ?_) ?_; rotate_left; (focus go_light; go_simp; rfl); simp only [Pu]
     refine r_val (v := ?qv88) (by kernel_rfl) (fun W hW => ?qh88) ?qr88
     case qh88 => have g := (Below.cell hW (p := ⟨w.heap.size, 0, none⟩) hzx).trans cx0; go_light; go_simp; rfl
     simp only [Pu]
     iterate 4 (refine r_val (v := ?_) (by kernel_rfl) (fun W hW => ?_) ?_; rotate_left; (focus go_light; go_simp; rfl); simp only [Pu])
     refine r_nil ?_
     intro w8 hw8
     go_wp2
     go_ret
     exact ⟨ret_b (by rw [HF.out, e1, h2, e3, e4]; rfl), HG.out.trans hw8⟩
   ·
    have e3 : decide (X1 * X2 < Y1 * Y2) = false := decide_eq_false h3
    clear q1 q3
    go_enter Try.func50, Try.ntmps50
    go_upto_region 1 with (fail)
    rw [← HV.out]
    clear HV
    refine region_R (by kernel_rfl) (by kernel_rfl) ?_
    refine r_val (v := ?_) (by kernel_rfl) (fun W hW => ?_) ?_; rotate_left; (focus go_light; go_simp; rfl); simp only [Pu]
    refine r_val (v := ?qv94) (by kernel_rfl) (fun W hW => ?qh94) ?qr94
    case qh94 => have g := (Below.cell hW (p := ⟨w.heap.size + 1, 0, none⟩) hzy).trans cy0; go_light; go_simp; rfl
    simp only [Pu]
    refine r_val (v := ?_) (by kernel_rfl) (fun W hW => ?_) ?_; rotate_left; (focus go_light; go_simp; rfl); simp only [Pu]
    refine r_val (v := ?qv96) (by kernel_rfl) (fun W hW => ?qh96) ?qr96
    case qh96 => have g := (Below.cell hW (p := ⟨w.heap.size, 0, none⟩) hzx).trans cx0; go_light; go_simp; rfl
    simp only [Pu]
    iterate 3 (refine r_val (v := ?_) (by kernel_rfl) (fun W hW => ?_) ?_; rotate_left; (focus go_light; go_simp; rfl); simp only [Pu])
    refine r_val (v := ?qv100) (by kernel_rfl) (fun W hW => ?qh100) ?qr100
    case qh100 => have g := (Below.cell hW (p := ⟨w.heap.size + 1, 0, none⟩) hzy).trans cy0; go_light; go_simp; rfl
    simp only [Pu]
    refine r_val (v := ?_) (by kernel_rfl) (fun W hW => ?_) ?_; rotate_left; (focus go_light; go_simp; rfl); simp only [Pu]
    refine r_val (v := ?qv102) (by kernel_rfl) (fun W hW => ?qh102) ?qr102
    case qh102 => have g := (Below.cell hW (p := ⟨w.heap.size, 0, none⟩) hzx).trans cx0; go_light; go_simp; rfl
    simp only [Pu]
    iterate 5 (refine r_val (v := ?_) (by kernel_rfl) (fun W hW => ?_) ?_; rotate_left; (focus go_light; go_simp; rfl); simp only [Pu])
    refine r_val (v := ?qv108) (by kernel_rfl) (fun W hW => ?qh108) ?qr108
    case qh108 => have g := (Below.cell hW (p := ⟨w.heap.size + 1, 0, none⟩) hzy).trans cy0; go_light; go_simp; rfl
    simp only [Pu]
    refine r_val (v := ?_) (by kernel_rfl) (fun W hW => ?_) ?_; rotate_left; (focus go_light; go_simp; rfl); simp only [Pu]
    refine r_val (v := ?qv110) (by kernel_rfl) (fun W hW => ?qh110) ?qr110
    case qh110 => have g := (Below.cell hW (p := ⟨w.heap.size + 1, 1, none⟩) hzy).trans cy1; go_light; go_simp; rfl
    simp only [Pu]
    iterate 2 (refine r_val (v := ?_) (by kernel_rfl) (fun W hW => ?_) ?_; rotate_left; (focus go_light; go_simp; rfl); simp only [Pu])
    refine r_val (v := ?qv113) (by kernel_rfl) (fun W hW => ?qh113) ?qr113
    case qh113 => have g := (Below.cell hW (p := ⟨w.heap.size, 0, none⟩) hzx).trans cx0; go_light; go_simp; rfl
    simp only [Pu]
    refine r_val (v := ?_) (by kernel_rfl) (fun W hW => ?_) ?_; rotate_left; (focus go_light; go_simp; rfl); simp only [Pu]
    refine r_val (v := ?qv115) (by kernel_rfl) (fun W hW => ?qh115) ?qr115
    case qh115 => have g := (Below.cell hW (p := ⟨w.heap.size, 1, none⟩) hzx).trans cx1; go_light; go_simp; rfl
    simp only [Pu]
    iterate 4 (refine r_val (v := ?_) (by kernel_rfl) (fun W hW => ?_) ?_; rotate_left; (focus go_light; go_simp; rfl); simp only [Pu])
    iterate 8 (refine r_skip (by kernel_rfl) ?_; simp only [Pu])
    iterate 2 (refine r_val (v := ?_) (by kernel_rfl) (fun W hW => ?_) ?_; rotate_left; (focus go_light; go_simp; rfl); simp only [Pu])
    refine r_nil ?_
    intro w8 hw8
    go_wp2
    go_ret
    exact ⟨ret_b (by rw [HF.out, e1, h2, e3]; rfl), HG.out.trans hw8⟩
 ·
  have e1 : decide (X1 < Y1) = false := decide_eq_false h1
  clear q1 q2 q3 hm1 hm2
  go_enter Try.func50, Try.ntmps50
  go_upto_region 1 with (fail)
  rw [← HV.out]
  clear HV
  refine region_R (by kernel_rfl) (by kernel_rfl) ?_
  refine r_val (v := ?_) (by kernel_rfl) (fun W hW => ?_) ?_; rotate_left; (focus go_light; go_simp; rfl); simp only [Pu]
  refine r_val (v := ?qv123) (by kernel_rfl) (fun W hW => ?qh123) ?qr123
  case qh123 => have g := (Below.cell hW (p := ⟨w.heap.size + 1, 0, none⟩) hzy).trans cy0; go_light; go_simp; rfl
  simp only [Pu]
  refine r_val (v := ?_) (by kernel_rfl) (fun W hW => ?_) ?_; rotate_left; (focus go_light; go_simp; rfl); simp only [Pu]
  refine r_val (v := ?qv125) (by kernel_rfl) (fun W hW => ?qh125) ?qr125
  case qh125 => have g := (Below.cell hW (p := ⟨w.heap.size, 0, none⟩) hzx).trans cx0; go_light; go_simp; rfl
  simp only [Pu]
  iterate 2 (refine r_val (v := ?_) (by kernel_rfl) (fun W hW => ?_) ?_; rotate_left; (focus go_light; go_simp; rfl); simp only [Pu])
  iterate 6 (refine r_skip (by kernel_rfl) ?_; simp only [Pu])
  iterate 2 (refine r_val (v := ?_) (by kernel_rfl) (fun W hW => ?_) ?_; rotate_left; (focus go_light; go_simp; rfl); simp only [Pu])
  iterate 11 (refine r_skip (by kernel_rfl) ?_; simp only [Pu])
  iterate 2 (refine r_val (v := ?_) (by kernel_rfl) (fun W hW => ?_) ?_; rotate_left; (focus go_light; go_simp; rfl); simp only [Pu])
  iterate 8 (refine r_skip (by kernel_rfl) ?_; simp only [Pu])
  iterate 2 (refine r_val (v := ?_) (by kernel_rfl) (fun W hW => ?_) ?_; rotate_left; (focus go_light; go_simp; rfl); simp only [Pu])
  refine r_nil ?_
  intro w8 hw8
  go_wp2
  go_ret
  exact ⟨ret_b (by rw [HF.out, e1]; rfl), HG.out.trans hw8⟩
end Go.Proofs.Ytoncapkmaeghfaa
