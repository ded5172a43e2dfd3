/- row of the reference's reader. -/
import Derived.Test.YtpcmdijgepbilaaRfPiece
import Derived.Deep.Cut
import Derived.Deep.CutRange
namespace Go.Proofs.Ytpcmdijgepbilaa
set_option linter.unusedVariables false
set_option linter.unusedSimpArgs false
open Go.RowKit

/-- how much is left: nothing behind an error. -/
def rfM (R sz : Nat) (w : World) : Nat :=
  match w.cell? ⟨R, 3, none⟩, w.cell? ⟨R, 1, none⟩ with
  | some (.int _ e), some (.int _ n) => bif e == 0 then sz + 1 - n.toNat else 0
  | _, _ => 0
theorem RfW.m {w : World} {R n d e g : Nat} {s : ByteArray} {A : Option Addr} {code : List In} (h : RfW w R s n d e g A code) : rfM R s.size w = bif e == 0 then s.size + 1 - n else 0 := by
  obtain ⟨c, h⟩ := h
  unfold rfM
  rw [h.c3, h.c1]
  simp only [Int.toNat_natCast]
  cases e with
  | zero => rfl
  | succ e => rfl
/-- how row goes on. -/
structure RowJ (R N : Nat) (w : World) (s : ByteArray) (Wf : Rs → Pc × Rs) (q : Rs) (A : Option Addr) (code : List In) (T : PcL × Rs) (wr : World) (n1 d1 g1 k1 : Nat) (q1 : Rs) (A1 : Option Addr) (code1 : List In) : Prop where
  h : RfW wr R s n1 d1 (errE q1) g1 A1 code1
  x : WX R w (blk A) wr (blk A1)
  len : code.length ≤ code1.length ∧ code1.length + 2 * (bif q1.bad then 0 else q1.rest.length) ≤ code.length + 2 * q.rest.length
  hk : q1.rest.length < k1
  t2 : Hid ((rowS Wf k1 q1).2 = T.2)
  good : Hid (q1.bad = false → q1.over = false ∧ s.data.toList.drop n1 = q1.rest ∧ n1 ≤ s.size ∧ d1 = q1.deep ∧ g1 = q1.groups ∧ Cd code1 ∧ code1 ++ (rowS Wf k1 q1).1.layR code1.length = code ++ T.1.layR code.length ∧ Bd q1 ∧ q1.rest.length ≤ N)
theorem RowJ.gr {R N : Nat} {w : World} {s : ByteArray} {Wf : Rs → Pc × Rs} {q : Rs} {A : Option Addr} {code : List In} {T : PcL × Rs} {wr w' : World} {n1 d1 g1 k1 : Nat} {q1 : Rs} {A1 : Option Addr} {code1 : List In} (I : RowJ R N w s Wf q A code T wr n1 d1 g1 k1 q1 A1 code1) (g : Gr wr w') : RowJ R N w s Wf q A code T w' n1 d1 g1 k1 q1 A1 code1 :=
  ⟨I.h.gr g, I.x.trans (WX.gr _ g), I.len, I.hk, I.t2, I.good⟩
theorem RowJ.ret {R N : Nat} {w : World} {s : ByteArray} {Wf : Rs → Pc × Rs} {q : Rs} {A : Option Addr} {code : List In} {T : PcL × Rs} {wr : World} {n1 d1 g1 k1 : Nat} {q1 : Rs} {A1 : Option Addr} {code1 : List In} (I : RowJ R N w s Wf q A code T wr n1 d1 g1 k1 q1 A1 code1) (e : rowS Wf k1 q1 = (.nil, q1)) : RetR w R s q A code (.row T.1) T.2 (.returned (.tuple #[])) wr := by
  have t := I.t2.out
  have g := I.good.out
  rw [e] at t g
  simp only at t
  rw [← t]
  refine ⟨rfl, n1, d1, g1, A1, code1, I.h, I.x, I.len, fun hb => ?_⟩
  obtain ⟨j1, j2, j3, j4, j5, -, j7, -⟩ := g hb
  simp only [PcL.layR, List.append_nil] at j7
  exact ⟨j1, by simp only [Pc.lay]; exact j7, j2, j3, j4, j5⟩
def RowX (R N : Nat) (w : World) (s : ByteArray) (Wf : Rs → Pc × Rs) (q : Rs) (A : Option Addr) (code : List In) (T : PcL × Rs) (wr : World) : Prop := ∃ n1 d1 g1 k1 q1 A1 code1, RowJ R N w s Wf q A code T wr n1 d1 g1 k1 q1 A1 code1
/-- a piece more. -/
theorem RowJ.next {R N : Nat} {w : World} {s : ByteArray} {Wf : Rs → Pc × Rs} {q : Rs} {A : Option Addr} {code : List In} {T : PcL × Rs} {wr : World} {n1 d1 g1 k1 : Nat} {q1 : Rs} {A1 : Option Addr} {code1 : List In} {w5 : World} {c : UInt8} {r : List UInt8} (hWf : ∀ s, Gd 0 s (Wf s).2) (hZ : ∀ s, Bd s → Sz s.rest.length (Wf s)) (I : RowJ R N w s Wf q A code T wr n1 d1 g1 (k1 + 1) q1 A1 code1) (hb4 : code.length + 2 * q.rest.length ≤ 4000) (hb : q1.bad = false) (hq : q1.rest = c :: r) (hend : endR q1.rest = false) {x : Ending}
    (hp : RetR wr R s q1 A1 code1 (pieceS Wf q1).1 (pieceS Wf q1).2 x w5) : RowX R N w s Wf q A code T w5 ∧ rfM R s.size w5 < rfM R s.size wr := by
  have e1 : rowS Wf (k1 + 1) q1 = (.cons (pieceS Wf q1).1 (rowS Wf k1 (pieceS Wf q1).2).1, (rowS Wf k1 (pieceS Wf q1).2).2) := by
    conv => lhs; unfold rowS
    rw [hb, hend]
    rfl
  obtain ⟨j1, j2, j3, j4, j5, j6, j7, j8, j9⟩ := I.good.out hb
  obtain ⟨g1', g2'⟩ := pieceS_gd hWf hq
  have hsz := pieceS_sz hWf hZ hq j8
  obtain ⟨-, n2, d2, g2, A2, code2, k1', x2, l2, good2⟩ := hp
  have hlen := I.len
  have hk := I.hk
  have hl1 : q1.rest.length = r.length + 1 := by rw [hq]; rfl
  have t2 := I.t2.out
  rw [e1] at t2 j7
  rw [hb] at hlen
  simp only [cond_false] at hlen
  generalize pieceS Wf q1 = p at *
  refine ⟨⟨n2, d2, g2, k1, p.2, A2, code2, k1', I.x.trans x2, ⟨by omega, by omega⟩, by omega, Lib.hid t2, Lib.hid fun hb2 => ?_⟩, ?_⟩
  · obtain ⟨i1, i2, i3, i4, i5, i6⟩ := good2 hb2
    have hc2 : code2.length = code1.length + p.1.sz := by rw [i2, List.length_append, Pc.lay_len]
    refine ⟨i1, i3, i4, i5, i6, ?_, ?_, g1'.bd j8, by omega⟩
    · rw [i2]; exact j6.lay hsz.2 (by omega)
    · rw [hc2, i2, ← j7]
      simp only [PcL.layR, List.append_assoc]
  · rw [I.h.m, k1'.m]
    have e0 : errE q1 = 0 := by simp only [errE, hb, j1]; rfl
    rw [e0]
    simp only [beq_self_eq_true, cond_true]
    cases hb2 : p.2.bad
    · obtain ⟨i1, i2, i3, i4, i5, i6⟩ := good2 hb2
      have e2 : errE p.2 = 0 := by simp only [errE, hb2, i1]; rfl
      rw [e2]
      simp only [beq_self_eq_true, cond_true]
      have := congrArg List.length i3
      have h2 := congrArg List.length j2
      simp at this h2
      omega
    · have e2 : (errE p.2 == 0) = false := by simp only [errE, hb2]; cases p.2.over <;> rfl
      rw [e2]
      simp only [cond_false]
      omega

set_option maxRecDepth 100000 in
set_option maxHeartbeats 6400000 in
theorem rrow_any (Wf : Rs → Pc × Rs) (hWf : ∀ s, Gd 0 s (Wf s).2) (hZ : ∀ s, Bd s → Sz s.rest.length (Wf s)) {w : World} {R n : Nat} {s : ByteArray} {A : Option Addr} {code : List In} {q : Rs} (h : RfS w R s n q A code) (hs : (s.size : Int) ≤ 4096) (hqb : q.over = false ∧ q.bad = false) (hcd : Cd code) (hb : code.length + 2 * q.rest.length ≤ 4000) (N : Nat) (hN : q.rest.length ≤ N) (hB : Bd q)
    (HP : ∀ W m q A code c r, RfS W R s m q A code → q.rest = c :: r → (q.over = false ∧ q.bad = false) → Cd code → code.length + 2 * q.rest.length ≤ 4000 → q.rest.length ≤ N → Bd q → Calls Try.prog 30 #[.pointer (some ⟨R, 0, none⟩)] W (RetR W R s q A code (pieceS Wf q).1 (pieceS Wf q).2)) :
    Calls Try.prog 23 #[.pointer (some ⟨R, 0, none⟩)] w (RetR w R s q A code (rowP Wf q).1 (rowP Wf q).2) := by
  unfold rowP
  obtain ⟨T, hT⟩ : ∃ T, rowS Wf (q.rest.length + 1) q = T := ⟨_, rfl⟩
  rw [hT]
  have I0 : RowX R N w s Wf q A code T w := ⟨n, q.deep, q.groups, q.rest.length + 1, q, A, code, by have := h.1; simp only [errE, hqb.1, hqb.2, cond_false]; exact this, WX.refl _ _ _, ⟨Nat.le_refl _, by rw [hqb.2]; exact Nat.le_refl _⟩, Nat.lt_succ_self _, Lib.hid (by rw [hT]), Lib.hid fun _ => ⟨hqb.1, h.2.1, h.2.2, rfl, rfl, hcd, by rw [hT], hB, hN⟩⟩
  have HPP := Lib.hid HP
  have Hx := Lib.hid (And.intro hWf hZ)
  clear hT HP hWf hZ h hqb hcd hN hB
  go_enter Try.func23, Try.ntmps23
  go_wp2_with (fail)
  go_loopw [] (fun wr => RowX R N w s Wf q A code T wr) (fun wr => rfM R s.size wr)
  case atStart => exact I0
  case round =>
    clear I0
    obtain ⟨n1, d1, g1, k1, q1, A1, code1, I⟩ := hrel
    obtain ⟨k1, rfl⟩ : ∃ j, k1 = j + 1 := ⟨k1 - 1, by have := I.hk; omega⟩
    have hz : R < wr.heap.size := I.h.lt
    obtain ⟨cc7, hc7⟩ := id I.h
    obtain ⟨c0, c1, c3⟩ := And.intro hc7.c0 (And.intro hc7.c1 hc7.c3)
    clear hc7
    cases hb1 : q1.bad
    case true =>
      have hne : (((errE q1 : Nat) : Int) == 0) = false := by simp only [errE, hb1]; cases q1.over <;> rfl
      have e1 : rowS Wf (k1 + 1) q1 = (.nil, q1) := by
        unfold rowS
        rw [hb1]
        rfl
      have HE := Lib.hid e1
      clear e1
      clear hb1
      go_upto_region 0 with (fail)
      refine region_R (by kernel_rfl) (by kernel_rfl) ?_
      refine r_val (v := ?qv1) (by kernel_rfl) (fun W hW => ?qh1) ?qr1
      case qh1 =>
        go_light
        go_simp
        rfl
      simp only [Act.put, List.setIfInBounds_toArray, List.set_cons_zero, List.set_cons_succ]
      refine r_val (v := ?qv2) (by kernel_rfl) (fun W hW => ?qh2) ?qr2
      case qh2 =>
        go_light
        go_simp
        rfl
      simp only [Act.put, List.setIfInBounds_toArray, List.set_cons_zero, List.set_cons_succ]
      refine r_val (v := ?qv3) (by kernel_rfl) (fun W hW => ?qh3) ?qr3
      case qh3 =>
        go_light
        go_simp
        rfl
      simp only [Act.put, List.setIfInBounds_toArray, List.set_cons_zero, List.set_cons_succ]
      refine r_val (v := ?qv4) (by kernel_rfl) (fun W hW => ?qh4) ?qr4
      case qh4 =>
        have q3 := (Below.cell hW (p := ⟨R, 3, none⟩) hz).trans c3
        go_light
        go_simp
        rfl
      simp only [Act.put, List.setIfInBounds_toArray, List.set_cons_zero, List.set_cons_succ]
      refine r_val (v := ?qv5) (by kernel_rfl) (fun W hW => ?qh5) ?qr5
      case qh5 =>
        go_light
        go_simp
        rfl
      simp only [Act.put, List.setIfInBounds_toArray, List.set_cons_zero, List.set_cons_succ]
      refine r_val (v := ?qv6) (by kernel_rfl) (fun W hW => ?qh6) ?qr6
      case qh6 =>
        go_light
        go_simp
        rfl
      simp only [Act.put, List.setIfInBounds_toArray, List.set_cons_zero, List.set_cons_succ]
      refine r_skip (by kernel_rfl) ?_
      simp only [Act.put, List.setIfInBounds_toArray, List.set_cons_zero, List.set_cons_succ]
      refine r_skip (by kernel_rfl) ?_
      simp only [Act.put, List.setIfInBounds_toArray, List.set_cons_zero, List.set_cons_succ]
      refine r_skip (by kernel_rfl) ?_
      simp only [Act.put, List.setIfInBounds_toArray, List.set_cons_zero, List.set_cons_succ]
      refine r_skip (by kernel_rfl) ?_
      simp only [Act.put, List.setIfInBounds_toArray, List.set_cons_zero, List.set_cons_succ]
      refine r_skip (by kernel_rfl) ?_
      simp only [Act.put, List.setIfInBounds_toArray, List.set_cons_zero, List.set_cons_succ]
      refine r_skip (by kernel_rfl) ?_
      simp only [Act.put, List.setIfInBounds_toArray, List.set_cons_zero, List.set_cons_succ]
      refine r_skip (by kernel_rfl) ?_
      simp only [Act.put, List.setIfInBounds_toArray, List.set_cons_zero, List.set_cons_succ]
      refine r_skip (by kernel_rfl) ?_
      simp only [Act.put, List.setIfInBounds_toArray, List.set_cons_zero, List.set_cons_succ]
      refine r_skip (by kernel_rfl) ?_
      simp only [Act.put, List.setIfInBounds_toArray, List.set_cons_zero, List.set_cons_succ]
      refine r_skip (by kernel_rfl) ?_
      simp only [Act.put, List.setIfInBounds_toArray, List.set_cons_zero, List.set_cons_succ]
      refine r_val (v := ?qv7) (by kernel_rfl) (fun W hW => ?qh7) ?qr7
      case qh7 =>
        go_light
        go_simp
        rfl
      simp only [Act.put, List.setIfInBounds_toArray, List.set_cons_zero, List.set_cons_succ]
      refine r_val (v := ?qv8) (by kernel_rfl) (fun W hW => ?qh8) ?qr8
      case qh8 =>
        go_light
        go_simp
        rfl
      simp only [Act.put, List.setIfInBounds_toArray, List.set_cons_zero, List.set_cons_succ]
      refine r_skip (by kernel_rfl) ?_
      simp only [Act.put, List.setIfInBounds_toArray, List.set_cons_zero, List.set_cons_succ]
      refine r_skip (by kernel_rfl) ?_
      simp only [Act.put, List.setIfInBounds_toArray, List.set_cons_zero, List.set_cons_succ]
      refine r_skip (by kernel_rfl) ?_
      simp only [Act.put, List.setIfInBounds_toArray, List.set_cons_zero, List.set_cons_succ]
      refine r_skip (by kernel_rfl) ?_
      simp only [Act.put, List.setIfInBounds_toArray, List.set_cons_zero, List.set_cons_succ]
      refine r_skip (by kernel_rfl) ?_
      simp only [Act.put, List.setIfInBounds_toArray, List.set_cons_zero, List.set_cons_succ]
      refine r_skip (by kernel_rfl) ?_
      simp only [Act.put, List.setIfInBounds_toArray, List.set_cons_zero, List.set_cons_succ]
      refine r_skip (by kernel_rfl) ?_
      simp only [Act.put, List.setIfInBounds_toArray, List.set_cons_zero, List.set_cons_succ]
      refine r_skip (by kernel_rfl) ?_
      simp only [Act.put, List.setIfInBounds_toArray, List.set_cons_zero, List.set_cons_succ]
      refine r_skip (by kernel_rfl) ?_
      simp only [Act.put, List.setIfInBounds_toArray, List.set_cons_zero, List.set_cons_succ]
      refine r_skip (by kernel_rfl) ?_
      simp only [Act.put, List.setIfInBounds_toArray, List.set_cons_zero, List.set_cons_succ]
      refine r_val (v := ?qv9) (by kernel_rfl) (fun W hW => ?qh9) ?qr9
      case qh9 =>
        go_light
        go_simp
        rfl
      simp only [Act.put, List.setIfInBounds_toArray, List.set_cons_zero, List.set_cons_succ]
      refine r_val (v := ?qv10) (by kernel_rfl) (fun W hW => ?qh10) ?qr10
      case qh10 =>
        go_light
        go_simp
        rfl
      simp only [Act.put, List.setIfInBounds_toArray, List.set_cons_zero, List.set_cons_succ]
      refine r_skip (by kernel_rfl) ?_
      simp only [Act.put, List.setIfInBounds_toArray, List.set_cons_zero, List.set_cons_succ]
      refine r_skip (by kernel_rfl) ?_
      simp only [Act.put, List.setIfInBounds_toArray, List.set_cons_zero, List.set_cons_succ]
      refine r_skip (by kernel_rfl) ?_
      simp only [Act.put, List.setIfInBounds_toArray, List.set_cons_zero, List.set_cons_succ]
      refine r_skip (by kernel_rfl) ?_
      simp only [Act.put, List.setIfInBounds_toArray, List.set_cons_zero, List.set_cons_succ]
      refine r_skip (by kernel_rfl) ?_
      simp only [Act.put, List.setIfInBounds_toArray, List.set_cons_zero, List.set_cons_succ]
      refine r_skip (by kernel_rfl) ?_
      simp only [Act.put, List.setIfInBounds_toArray, List.set_cons_zero, List.set_cons_succ]
      refine r_skip (by kernel_rfl) ?_
      simp only [Act.put, List.setIfInBounds_toArray, List.set_cons_zero, List.set_cons_succ]
      refine r_skip (by kernel_rfl) ?_
      simp only [Act.put, List.setIfInBounds_toArray, List.set_cons_zero, List.set_cons_succ]
      refine r_skip (by kernel_rfl) ?_
      simp only [Act.put, List.setIfInBounds_toArray, List.set_cons_zero, List.set_cons_succ]
      refine r_skip (by kernel_rfl) ?_
      simp only [Act.put, List.setIfInBounds_toArray, List.set_cons_zero, List.set_cons_succ]
      refine r_val (v := ?qv11) (by kernel_rfl) (fun W hW => ?qh11) ?qr11
      case qh11 =>
        go_light
        go_simp
        rfl
      simp only [Act.put, List.setIfInBounds_toArray, List.set_cons_zero, List.set_cons_succ]
      refine r_nil ?_
      intro w8 hw8
      go_wp2_with (fail)
      go_end0
      exact (I.gr hw8).ret HE.out
    case false =>
      obtain ⟨j1, j2, j3, j4, j5, j6, j7, j8, j9⟩ := I.good.out hb1
      have he : errE q1 = 0 := by simp only [errE, hb1, j1]; rfl
      rw [he] at c3
      rcases hr2 : q1.rest with _ | ⟨d, r⟩
      · have hn7 : ¬ n1 < s.size := by
          rw [hr2] at j2
          have := congrArg List.length j2
          simp at this
          omega
        have hl : decide (n1 < s.size) = false := by simp; omega
        have e1 : rowS Wf (k1 + 1) q1 = (.nil, q1) := by
          unfold rowS
          rw [hb1, hr2]
          rfl
        have HE := Lib.hid e1
        clear e1
        clear hn7 he j1 j2 j3 j4 j5 j6 j7 j8 j9 hb1 hr2
        go_upto_region 0 with (fail)
        refine region_R (by kernel_rfl) (by kernel_rfl) ?_
        refine r_val (v := ?qv12) (by kernel_rfl) (fun W hW => ?qh12) ?qr12
        case qh12 =>
          go_light
          go_simp
          rfl
        simp only [Act.put, List.setIfInBounds_toArray, List.set_cons_zero, List.set_cons_succ]
        refine r_val (v := ?qv13) (by kernel_rfl) (fun W hW => ?qh13) ?qr13
        case qh13 =>
          go_light
          go_simp
          rfl
        simp only [Act.put, List.setIfInBounds_toArray, List.set_cons_zero, List.set_cons_succ]
        refine r_val (v := ?qv14) (by kernel_rfl) (fun W hW => ?qh14) ?qr14
        case qh14 =>
          go_light
          go_simp
          rfl
        simp only [Act.put, List.setIfInBounds_toArray, List.set_cons_zero, List.set_cons_succ]
        refine r_val (v := ?qv15) (by kernel_rfl) (fun W hW => ?qh15) ?qr15
        case qh15 =>
          have q3 := (Below.cell hW (p := ⟨R, 3, none⟩) hz).trans c3
          go_light
          go_simp
          rfl
        simp only [Act.put, List.setIfInBounds_toArray, List.set_cons_zero, List.set_cons_succ]
        refine r_val (v := ?qv16) (by kernel_rfl) (fun W hW => ?qh16) ?qr16
        case qh16 =>
          go_light
          go_simp
          rfl
        simp only [Act.put, List.setIfInBounds_toArray, List.set_cons_zero, List.set_cons_succ]
        refine r_val (v := ?qv17) (by kernel_rfl) (fun W hW => ?qh17) ?qr17
        case qh17 =>
          go_light
          go_simp
          rfl
        simp only [Act.put, List.setIfInBounds_toArray, List.set_cons_zero, List.set_cons_succ]
        refine r_val (v := ?qv18) (by kernel_rfl) (fun W hW => ?qh18) ?qr18
        case qh18 =>
          go_light
          go_simp
          rfl
        simp only [Act.put, List.setIfInBounds_toArray, List.set_cons_zero, List.set_cons_succ]
        refine r_val (v := ?qv19) (by kernel_rfl) (fun W hW => ?qh19) ?qr19
        case qh19 =>
          go_light
          go_simp
          rfl
        simp only [Act.put, List.setIfInBounds_toArray, List.set_cons_zero, List.set_cons_succ]
        refine r_val (v := ?qv20) (by kernel_rfl) (fun W hW => ?qh20) ?qr20
        case qh20 =>
          go_light
          go_simp
          rfl
        simp only [Act.put, List.setIfInBounds_toArray, List.set_cons_zero, List.set_cons_succ]
        refine r_val (v := ?qv21) (by kernel_rfl) (fun W hW => ?qh21) ?qr21
        case qh21 =>
          have q1 := (Below.cell hW (p := ⟨R, 1, none⟩) hz).trans c1
          go_light
          go_simp
          rfl
        simp only [Act.put, List.setIfInBounds_toArray, List.set_cons_zero, List.set_cons_succ]
        refine r_val (v := ?qv22) (by kernel_rfl) (fun W hW => ?qh22) ?qr22
        case qh22 =>
          go_light
          go_simp
          rfl
        simp only [Act.put, List.setIfInBounds_toArray, List.set_cons_zero, List.set_cons_succ]
        refine r_val (v := ?qv23) (by kernel_rfl) (fun W hW => ?qh23) ?qr23
        case qh23 =>
          go_light
          go_simp
          rfl
        simp only [Act.put, List.setIfInBounds_toArray, List.set_cons_zero, List.set_cons_succ]
        refine r_val (v := ?qv24) (by kernel_rfl) (fun W hW => ?qh24) ?qr24
        case qh24 =>
          go_light
          go_simp
          rfl
        simp only [Act.put, List.setIfInBounds_toArray, List.set_cons_zero, List.set_cons_succ]
        refine r_val (v := ?qv25) (by kernel_rfl) (fun W hW => ?qh25) ?qr25
        case qh25 =>
          have q0 := (Below.cell hW (p := ⟨R, 0, none⟩) hz).trans c0
          go_light
          go_simp
          rfl
        simp only [Act.put, List.setIfInBounds_toArray, List.set_cons_zero, List.set_cons_succ]
        refine r_val (v := ?qv26) (by kernel_rfl) (fun W hW => ?qh26) ?qr26
        case qh26 =>
          go_light
          go_simp
          rfl
        simp only [Act.put, List.setIfInBounds_toArray, List.set_cons_zero, List.set_cons_succ]
        refine r_val (v := ?qv27) (by kernel_rfl) (fun W hW => ?qh27) ?qr27
        case qh27 =>
          go_light
          go_simp
          rfl
        simp only [Act.put, List.setIfInBounds_toArray, List.set_cons_zero, List.set_cons_succ]
        refine r_val (v := ?qv28) (by kernel_rfl) (fun W hW => ?qh28) ?qr28
        case qh28 =>
          go_light
          go_simp
          rfl
        simp only [Act.put, List.setIfInBounds_toArray, List.set_cons_zero, List.set_cons_succ]
        refine r_val (v := ?qv29) (by kernel_rfl) (fun W hW => ?qh29) ?qr29
        case qh29 =>
          go_light
          go_simp
          rfl
        simp only [Act.put, List.setIfInBounds_toArray, List.set_cons_zero, List.set_cons_succ]
        refine r_skip (by kernel_rfl) ?_
        simp only [Act.put, List.setIfInBounds_toArray, List.set_cons_zero, List.set_cons_succ]
        refine r_skip (by kernel_rfl) ?_
        simp only [Act.put, List.setIfInBounds_toArray, List.set_cons_zero, List.set_cons_succ]
        refine r_skip (by kernel_rfl) ?_
        simp only [Act.put, List.setIfInBounds_toArray, List.set_cons_zero, List.set_cons_succ]
        refine r_skip (by kernel_rfl) ?_
        simp only [Act.put, List.setIfInBounds_toArray, List.set_cons_zero, List.set_cons_succ]
        refine r_skip (by kernel_rfl) ?_
        simp only [Act.put, List.setIfInBounds_toArray, List.set_cons_zero, List.set_cons_succ]
        refine r_skip (by kernel_rfl) ?_
        simp only [Act.put, List.setIfInBounds_toArray, List.set_cons_zero, List.set_cons_succ]
        refine r_skip (by kernel_rfl) ?_
        simp only [Act.put, List.setIfInBounds_toArray, List.set_cons_zero, List.set_cons_succ]
        refine r_skip (by kernel_rfl) ?_
        simp only [Act.put, List.setIfInBounds_toArray, List.set_cons_zero, List.set_cons_succ]
        refine r_skip (by kernel_rfl) ?_
        simp only [Act.put, List.setIfInBounds_toArray, List.set_cons_zero, List.set_cons_succ]
        refine r_skip (by kernel_rfl) ?_
        simp only [Act.put, List.setIfInBounds_toArray, List.set_cons_zero, List.set_cons_succ]
        refine r_val (v := ?qv30) (by kernel_rfl) (fun W hW => ?qh30) ?qr30
        case qh30 =>
          go_light
          go_simp
          rfl
        simp only [Act.put, List.setIfInBounds_toArray, List.set_cons_zero, List.set_cons_succ]
        refine r_val (v := ?qv31) (by kernel_rfl) (fun W hW => ?qh31) ?qr31
        case qh31 =>
          go_light
          go_simp
          rfl
        simp only [Act.put, List.setIfInBounds_toArray, List.set_cons_zero, List.set_cons_succ]
        refine r_skip (by kernel_rfl) ?_
        simp only [Act.put, List.setIfInBounds_toArray, List.set_cons_zero, List.set_cons_succ]
        refine r_skip (by kernel_rfl) ?_
        simp only [Act.put, List.setIfInBounds_toArray, List.set_cons_zero, List.set_cons_succ]
        refine r_skip (by kernel_rfl) ?_
        simp only [Act.put, List.setIfInBounds_toArray, List.set_cons_zero, List.set_cons_succ]
        refine r_skip (by kernel_rfl) ?_
        simp only [Act.put, List.setIfInBounds_toArray, List.set_cons_zero, List.set_cons_succ]
        refine r_skip (by kernel_rfl) ?_
        simp only [Act.put, List.setIfInBounds_toArray, List.set_cons_zero, List.set_cons_succ]
        refine r_skip (by kernel_rfl) ?_
        simp only [Act.put, List.setIfInBounds_toArray, List.set_cons_zero, List.set_cons_succ]
        refine r_skip (by kernel_rfl) ?_
        simp only [Act.put, List.setIfInBounds_toArray, List.set_cons_zero, List.set_cons_succ]
        refine r_skip (by kernel_rfl) ?_
        simp only [Act.put, List.setIfInBounds_toArray, List.set_cons_zero, List.set_cons_succ]
        refine r_skip (by kernel_rfl) ?_
        simp only [Act.put, List.setIfInBounds_toArray, List.set_cons_zero, List.set_cons_succ]
        refine r_skip (by kernel_rfl) ?_
        simp only [Act.put, List.setIfInBounds_toArray, List.set_cons_zero, List.set_cons_succ]
        refine r_val (v := ?qv32) (by kernel_rfl) (fun W hW => ?qh32) ?qr32
        case qh32 =>
          go_light
          go_simp
          rfl
        simp only [Act.put, List.setIfInBounds_toArray, List.set_cons_zero, List.set_cons_succ]
        refine r_nil ?_
        intro w8 hw8
        go_wp2_with (fail)
        go_end0
        exact (I.gr hw8).ret HE.out
      · have hl0 : n1 < s.data.toList.length := by
          rcases Nat.lt_or_ge n1 s.data.toList.length with h1 | h1
          · exact h1
          · rw [List.drop_eq_nil_of_le h1, hr2] at j2; cases j2
        have hn7 : n1 < s.size := by simpa using hl0
        rw [List.drop_eq_getElem_cons hl0, hr2] at j2
        have hdc : s[n1] = d := by injection j2
        have hn3 : (n1 : Int) < (s.size : Int) := by omega
        have hl : decide (n1 < s.size) = true := by simp; omega
        have J := Lib.hid (And.intro j1 (And.intro j6 j8))
        clear hl0 j1 j2 j3 j4 j5 j6 j7 j8 j9 he
        by_cases h124 : d.toNat = 124
        · have y1 : ((s[n1].toNat : Int) == 124) = true := by rw [hdc]; simp; omega
          have z1 : ((s[n1].toNat : Int) != 124) = false := by rw [bne, y1]; rfl
          have e1 : rowS Wf (k1 + 1) q1 = (.nil, q1) := by
            unfold rowS
            rw [hb1, hr2, show endR (d :: r) = true by simp [endR, h124]]
            rfl
          have HE := Lib.hid e1
          clear e1
          clear hb1 hr2 hdc h124
          go_upto_region 0 with (fail)
          refine region_R (by kernel_rfl) (by kernel_rfl) ?_
          refine r_val (v := ?qv33) (by kernel_rfl) (fun W hW => ?qh33) ?qr33
          case qh33 =>
            go_light
            go_simp
            rfl
          simp only [Act.put, List.setIfInBounds_toArray, List.set_cons_zero, List.set_cons_succ]
          refine r_val (v := ?qv34) (by kernel_rfl) (fun W hW => ?qh34) ?qr34
          case qh34 =>
            go_light
            go_simp
            rfl
          simp only [Act.put, List.setIfInBounds_toArray, List.set_cons_zero, List.set_cons_succ]
          refine r_val (v := ?qv35) (by kernel_rfl) (fun W hW => ?qh35) ?qr35
          case qh35 =>
            go_light
            go_simp
            rfl
          simp only [Act.put, List.setIfInBounds_toArray, List.set_cons_zero, List.set_cons_succ]
          refine r_val (v := ?qv36) (by kernel_rfl) (fun W hW => ?qh36) ?qr36
          case qh36 =>
            have q3 := (Below.cell hW (p := ⟨R, 3, none⟩) hz).trans c3
            go_light
            go_simp
            rfl
          simp only [Act.put, List.setIfInBounds_toArray, List.set_cons_zero, List.set_cons_succ]
          refine r_val (v := ?qv37) (by kernel_rfl) (fun W hW => ?qh37) ?qr37
          case qh37 =>
            go_light
            go_simp
            rfl
          simp only [Act.put, List.setIfInBounds_toArray, List.set_cons_zero, List.set_cons_succ]
          refine r_val (v := ?qv38) (by kernel_rfl) (fun W hW => ?qh38) ?qr38
          case qh38 =>
            go_light
            go_simp
            rfl
          simp only [Act.put, List.setIfInBounds_toArray, List.set_cons_zero, List.set_cons_succ]
          refine r_val (v := ?qv39) (by kernel_rfl) (fun W hW => ?qh39) ?qr39
          case qh39 =>
            go_light
            go_simp
            rfl
          simp only [Act.put, List.setIfInBounds_toArray, List.set_cons_zero, List.set_cons_succ]
          refine r_val (v := ?qv40) (by kernel_rfl) (fun W hW => ?qh40) ?qr40
          case qh40 =>
            go_light
            go_simp
            rfl
          simp only [Act.put, List.setIfInBounds_toArray, List.set_cons_zero, List.set_cons_succ]
          refine r_val (v := ?qv41) (by kernel_rfl) (fun W hW => ?qh41) ?qr41
          case qh41 =>
            go_light
            go_simp
            rfl
          simp only [Act.put, List.setIfInBounds_toArray, List.set_cons_zero, List.set_cons_succ]
          refine r_val (v := ?qv42) (by kernel_rfl) (fun W hW => ?qh42) ?qr42
          case qh42 =>
            have q1 := (Below.cell hW (p := ⟨R, 1, none⟩) hz).trans c1
            go_light
            go_simp
            rfl
          simp only [Act.put, List.setIfInBounds_toArray, List.set_cons_zero, List.set_cons_succ]
          refine r_val (v := ?qv43) (by kernel_rfl) (fun W hW => ?qh43) ?qr43
          case qh43 =>
            go_light
            go_simp
            rfl
          simp only [Act.put, List.setIfInBounds_toArray, List.set_cons_zero, List.set_cons_succ]
          refine r_val (v := ?qv44) (by kernel_rfl) (fun W hW => ?qh44) ?qr44
          case qh44 =>
            go_light
            go_simp
            rfl
          simp only [Act.put, List.setIfInBounds_toArray, List.set_cons_zero, List.set_cons_succ]
          refine r_val (v := ?qv45) (by kernel_rfl) (fun W hW => ?qh45) ?qr45
          case qh45 =>
            go_light
            go_simp
            rfl
          simp only [Act.put, List.setIfInBounds_toArray, List.set_cons_zero, List.set_cons_succ]
          refine r_val (v := ?qv46) (by kernel_rfl) (fun W hW => ?qh46) ?qr46
          case qh46 =>
            have q0 := (Below.cell hW (p := ⟨R, 0, none⟩) hz).trans c0
            go_light
            go_simp
            rfl
          simp only [Act.put, List.setIfInBounds_toArray, List.set_cons_zero, List.set_cons_succ]
          refine r_val (v := ?qv47) (by kernel_rfl) (fun W hW => ?qh47) ?qr47
          case qh47 =>
            go_light
            go_simp
            rfl
          simp only [Act.put, List.setIfInBounds_toArray, List.set_cons_zero, List.set_cons_succ]
          refine r_val (v := ?qv48) (by kernel_rfl) (fun W hW => ?qh48) ?qr48
          case qh48 =>
            go_light
            go_simp
            rfl
          simp only [Act.put, List.setIfInBounds_toArray, List.set_cons_zero, List.set_cons_succ]
          refine r_val (v := ?qv49) (by kernel_rfl) (fun W hW => ?qh49) ?qr49
          case qh49 =>
            go_light
            go_simp
            rfl
          simp only [Act.put, List.setIfInBounds_toArray, List.set_cons_zero, List.set_cons_succ]
          refine r_val (v := ?qv50) (by kernel_rfl) (fun W hW => ?qh50) ?qr50
          case qh50 =>
            go_light
            go_simp
            rfl
          simp only [Act.put, List.setIfInBounds_toArray, List.set_cons_zero, List.set_cons_succ]
          refine r_val (v := ?qv51) (by kernel_rfl) (fun W hW => ?qh51) ?qr51
          case qh51 =>
            go_light
            go_simp
            rfl
          simp only [Act.put, List.setIfInBounds_toArray, List.set_cons_zero, List.set_cons_succ]
          refine r_val (v := ?qv52) (by kernel_rfl) (fun W hW => ?qh52) ?qr52
          case qh52 =>
            go_light
            go_simp
            rfl
          simp only [Act.put, List.setIfInBounds_toArray, List.set_cons_zero, List.set_cons_succ]
          refine r_val (v := ?qv53) (by kernel_rfl) (fun W hW => ?qh53) ?qr53
          case qh53 =>
            go_light
            go_simp
            rfl
          simp only [Act.put, List.setIfInBounds_toArray, List.set_cons_zero, List.set_cons_succ]
          refine r_val (v := ?qv54) (by kernel_rfl) (fun W hW => ?qh54) ?qr54
          case qh54 =>
            have q0 := (Below.cell hW (p := ⟨R, 0, none⟩) hz).trans c0
            go_light
            go_simp
            rfl
          simp only [Act.put, List.setIfInBounds_toArray, List.set_cons_zero, List.set_cons_succ]
          refine r_val (v := ?qv55) (by kernel_rfl) (fun W hW => ?qh55) ?qr55
          case qh55 =>
            go_light
            go_simp
            rfl
          simp only [Act.put, List.setIfInBounds_toArray, List.set_cons_zero, List.set_cons_succ]
          refine r_val (v := ?qv56) (by kernel_rfl) (fun W hW => ?qh56) ?qr56
          case qh56 =>
            go_light
            go_simp
            rfl
          simp only [Act.put, List.setIfInBounds_toArray, List.set_cons_zero, List.set_cons_succ]
          refine r_val (v := ?qv57) (by kernel_rfl) (fun W hW => ?qh57) ?qr57
          case qh57 =>
            go_light
            go_simp
            rfl
          simp only [Act.put, List.setIfInBounds_toArray, List.set_cons_zero, List.set_cons_succ]
          refine r_val (v := ?qv58) (by kernel_rfl) (fun W hW => ?qh58) ?qr58
          case qh58 =>
            have q1 := (Below.cell hW (p := ⟨R, 1, none⟩) hz).trans c1
            go_light
            go_simp
            rfl
          simp only [Act.put, List.setIfInBounds_toArray, List.set_cons_zero, List.set_cons_succ]
          refine r_val (v := ?qv59) (by kernel_rfl) (fun W hW => ?qh59) ?qr59
          case qh59 =>
            go_light
            go_simp
            rfl
          simp only [Act.put, List.setIfInBounds_toArray, List.set_cons_zero, List.set_cons_succ]
          refine r_val (v := ?qv60) (by kernel_rfl) (fun W hW => ?qh60) ?qr60
          case qh60 =>
            go_light
            go_simp
            rfl
          simp only [Act.put, List.setIfInBounds_toArray, List.set_cons_zero, List.set_cons_succ]
          refine r_val (v := ?qv61) (by kernel_rfl) (fun W hW => ?qh61) ?qr61
          case qh61 =>
            go_light
            go_simp
            rfl
          simp only [Act.put, List.setIfInBounds_toArray, List.set_cons_zero, List.set_cons_succ]
          refine r_val (v := ?qv62) (by kernel_rfl) (fun W hW => ?qh62) ?qr62
          case qh62 =>
            go_light
            go_simp
            rfl
          simp only [Act.put, List.setIfInBounds_toArray, List.set_cons_zero, List.set_cons_succ]
          refine r_skip (by kernel_rfl) ?_
          simp only [Act.put, List.setIfInBounds_toArray, List.set_cons_zero, List.set_cons_succ]
          refine r_skip (by kernel_rfl) ?_
          simp only [Act.put, List.setIfInBounds_toArray, List.set_cons_zero, List.set_cons_succ]
          refine r_skip (by kernel_rfl) ?_
          simp only [Act.put, List.setIfInBounds_toArray, List.set_cons_zero, List.set_cons_succ]
          refine r_skip (by kernel_rfl) ?_
          simp only [Act.put, List.setIfInBounds_toArray, List.set_cons_zero, List.set_cons_succ]
          refine r_skip (by kernel_rfl) ?_
          simp only [Act.put, List.setIfInBounds_toArray, List.set_cons_zero, List.set_cons_succ]
          refine r_skip (by kernel_rfl) ?_
          simp only [Act.put, List.setIfInBounds_toArray, List.set_cons_zero, List.set_cons_succ]
          refine r_skip (by kernel_rfl) ?_
          simp only [Act.put, List.setIfInBounds_toArray, List.set_cons_zero, List.set_cons_succ]
          refine r_skip (by kernel_rfl) ?_
          simp only [Act.put, List.setIfInBounds_toArray, List.set_cons_zero, List.set_cons_succ]
          refine r_skip (by kernel_rfl) ?_
          simp only [Act.put, List.setIfInBounds_toArray, List.set_cons_zero, List.set_cons_succ]
          refine r_skip (by kernel_rfl) ?_
          simp only [Act.put, List.setIfInBounds_toArray, List.set_cons_zero, List.set_cons_succ]
          refine r_val (v := ?qv63) (by kernel_rfl) (fun W hW => ?qh63) ?qr63
          case qh63 =>
            go_light
            go_simp
            rfl
          simp only [Act.put, List.setIfInBounds_toArray, List.set_cons_zero, List.set_cons_succ]
          refine r_nil ?_
          intro w8 hw8
          go_wp2_with (fail)
          go_end0
          exact (I.gr hw8).ret HE.out
        · by_cases h41 : d.toNat = 41
          · have y1 : ((s[n1].toNat : Int) == 124) = false := by rw [hdc]; simp; omega
            have z1 : ((s[n1].toNat : Int) != 124) = true := by rw [bne, y1]; rfl
            have y2 : ((s[n1].toNat : Int) == 41) = true := by rw [hdc]; simp; omega
            have z2 : ((s[n1].toNat : Int) != 41) = false := by rw [bne, y2]; rfl
            have e1 : rowS Wf (k1 + 1) q1 = (.nil, q1) := by
              unfold rowS
              rw [hb1, hr2, show endR (d :: r) = true by simp [endR, h41]]
              rfl
            have HE := Lib.hid e1
            clear e1
            clear hb1 hr2 hdc h124 h41
            go_upto_region 0 with (fail)
            refine region_R (by kernel_rfl) (by kernel_rfl) ?_
            refine r_val (v := ?qv64) (by kernel_rfl) (fun W hW => ?qh64) ?qr64
            case qh64 =>
              go_light
              go_simp
              rfl
            simp only [Act.put, List.setIfInBounds_toArray, List.set_cons_zero, List.set_cons_succ]
            refine r_val (v := ?qv65) (by kernel_rfl) (fun W hW => ?qh65) ?qr65
            case qh65 =>
              go_light
              go_simp
              rfl
            simp only [Act.put, List.setIfInBounds_toArray, List.set_cons_zero, List.set_cons_succ]
            refine r_val (v := ?qv66) (by kernel_rfl) (fun W hW => ?qh66) ?qr66
            case qh66 =>
              go_light
              go_simp
              rfl
            simp only [Act.put, List.setIfInBounds_toArray, List.set_cons_zero, List.set_cons_succ]
            refine r_val (v := ?qv67) (by kernel_rfl) (fun W hW => ?qh67) ?qr67
            case qh67 =>
              have q3 := (Below.cell hW (p := ⟨R, 3, none⟩) hz).trans c3
              go_light
              go_simp
              rfl
            simp only [Act.put, List.setIfInBounds_toArray, List.set_cons_zero, List.set_cons_succ]
            refine r_val (v := ?qv68) (by kernel_rfl) (fun W hW => ?qh68) ?qr68
            case qh68 =>
              go_light
              go_simp
              rfl
            simp only [Act.put, List.setIfInBounds_toArray, List.set_cons_zero, List.set_cons_succ]
            refine r_val (v := ?qv69) (by kernel_rfl) (fun W hW => ?qh69) ?qr69
            case qh69 =>
              go_light
              go_simp
              rfl
            simp only [Act.put, List.setIfInBounds_toArray, List.set_cons_zero, List.set_cons_succ]
            refine r_val (v := ?qv70) (by kernel_rfl) (fun W hW => ?qh70) ?qr70
            case qh70 =>
              go_light
              go_simp
              rfl
            simp only [Act.put, List.setIfInBounds_toArray, List.set_cons_zero, List.set_cons_succ]
            refine r_val (v := ?qv71) (by kernel_rfl) (fun W hW => ?qh71) ?qr71
            case qh71 =>
              go_light
              go_simp
              rfl
            simp only [Act.put, List.setIfInBounds_toArray, List.set_cons_zero, List.set_cons_succ]
            refine r_val (v := ?qv72) (by kernel_rfl) (fun W hW => ?qh72) ?qr72
            case qh72 =>
              go_light
              go_simp
              rfl
            simp only [Act.put, List.setIfInBounds_toArray, List.set_cons_zero, List.set_cons_succ]
            refine r_val (v := ?qv73) (by kernel_rfl) (fun W hW => ?qh73) ?qr73
            case qh73 =>
              have q1 := (Below.cell hW (p := ⟨R, 1, none⟩) hz).trans c1
              go_light
              go_simp
              rfl
            simp only [Act.put, List.setIfInBounds_toArray, List.set_cons_zero, List.set_cons_succ]
            refine r_val (v := ?qv74) (by kernel_rfl) (fun W hW => ?qh74) ?qr74
            case qh74 =>
              go_light
              go_simp
              rfl
            simp only [Act.put, List.setIfInBounds_toArray, List.set_cons_zero, List.set_cons_succ]
            refine r_val (v := ?qv75) (by kernel_rfl) (fun W hW => ?qh75) ?qr75
            case qh75 =>
              go_light
              go_simp
              rfl
            simp only [Act.put, List.setIfInBounds_toArray, List.set_cons_zero, List.set_cons_succ]
            refine r_val (v := ?qv76) (by kernel_rfl) (fun W hW => ?qh76) ?qr76
            case qh76 =>
              go_light
              go_simp
              rfl
            simp only [Act.put, List.setIfInBounds_toArray, List.set_cons_zero, List.set_cons_succ]
            refine r_val (v := ?qv77) (by kernel_rfl) (fun W hW => ?qh77) ?qr77
            case qh77 =>
              have q0 := (Below.cell hW (p := ⟨R, 0, none⟩) hz).trans c0
              go_light
              go_simp
              rfl
            simp only [Act.put, List.setIfInBounds_toArray, List.set_cons_zero, List.set_cons_succ]
            refine r_val (v := ?qv78) (by kernel_rfl) (fun W hW => ?qh78) ?qr78
            case qh78 =>
              go_light
              go_simp
              rfl
            simp only [Act.put, List.setIfInBounds_toArray, List.set_cons_zero, List.set_cons_succ]
            refine r_val (v := ?qv79) (by kernel_rfl) (fun W hW => ?qh79) ?qr79
            case qh79 =>
              go_light
              go_simp
              rfl
            simp only [Act.put, List.setIfInBounds_toArray, List.set_cons_zero, List.set_cons_succ]
            refine r_val (v := ?qv80) (by kernel_rfl) (fun W hW => ?qh80) ?qr80
            case qh80 =>
              go_light
              go_simp
              rfl
            simp only [Act.put, List.setIfInBounds_toArray, List.set_cons_zero, List.set_cons_succ]
            refine r_val (v := ?qv81) (by kernel_rfl) (fun W hW => ?qh81) ?qr81
            case qh81 =>
              go_light
              go_simp
              rfl
            simp only [Act.put, List.setIfInBounds_toArray, List.set_cons_zero, List.set_cons_succ]
            refine r_val (v := ?qv82) (by kernel_rfl) (fun W hW => ?qh82) ?qr82
            case qh82 =>
              go_light
              go_simp
              rfl
            simp only [Act.put, List.setIfInBounds_toArray, List.set_cons_zero, List.set_cons_succ]
            refine r_val (v := ?qv83) (by kernel_rfl) (fun W hW => ?qh83) ?qr83
            case qh83 =>
              go_light
              go_simp
              rfl
            simp only [Act.put, List.setIfInBounds_toArray, List.set_cons_zero, List.set_cons_succ]
            refine r_val (v := ?qv84) (by kernel_rfl) (fun W hW => ?qh84) ?qr84
            case qh84 =>
              go_light
              go_simp
              rfl
            simp only [Act.put, List.setIfInBounds_toArray, List.set_cons_zero, List.set_cons_succ]
            refine r_val (v := ?qv85) (by kernel_rfl) (fun W hW => ?qh85) ?qr85
            case qh85 =>
              have q0 := (Below.cell hW (p := ⟨R, 0, none⟩) hz).trans c0
              go_light
              go_simp
              rfl
            simp only [Act.put, List.setIfInBounds_toArray, List.set_cons_zero, List.set_cons_succ]
            refine r_val (v := ?qv86) (by kernel_rfl) (fun W hW => ?qh86) ?qr86
            case qh86 =>
              go_light
              go_simp
              rfl
            simp only [Act.put, List.setIfInBounds_toArray, List.set_cons_zero, List.set_cons_succ]
            refine r_val (v := ?qv87) (by kernel_rfl) (fun W hW => ?qh87) ?qr87
            case qh87 =>
              go_light
              go_simp
              rfl
            simp only [Act.put, List.setIfInBounds_toArray, List.set_cons_zero, List.set_cons_succ]
            refine r_val (v := ?qv88) (by kernel_rfl) (fun W hW => ?qh88) ?qr88
            case qh88 =>
              go_light
              go_simp
              rfl
            simp only [Act.put, List.setIfInBounds_toArray, List.set_cons_zero, List.set_cons_succ]
            refine r_val (v := ?qv89) (by kernel_rfl) (fun W hW => ?qh89) ?qr89
            case qh89 =>
              have q1 := (Below.cell hW (p := ⟨R, 1, none⟩) hz).trans c1
              go_light
              go_simp
              rfl
            simp only [Act.put, List.setIfInBounds_toArray, List.set_cons_zero, List.set_cons_succ]
            refine r_val (v := ?qv90) (by kernel_rfl) (fun W hW => ?qh90) ?qr90
            case qh90 =>
              go_light
              go_simp
              rfl
            simp only [Act.put, List.setIfInBounds_toArray, List.set_cons_zero, List.set_cons_succ]
            refine r_val (v := ?qv91) (by kernel_rfl) (fun W hW => ?qh91) ?qr91
            case qh91 =>
              go_light
              go_simp
              rfl
            simp only [Act.put, List.setIfInBounds_toArray, List.set_cons_zero, List.set_cons_succ]
            refine r_val (v := ?qv92) (by kernel_rfl) (fun W hW => ?qh92) ?qr92
            case qh92 =>
              go_light
              go_simp
              rfl
            simp only [Act.put, List.setIfInBounds_toArray, List.set_cons_zero, List.set_cons_succ]
            refine r_val (v := ?qv93) (by kernel_rfl) (fun W hW => ?qh93) ?qr93
            case qh93 =>
              go_light
              go_simp
              rfl
            simp only [Act.put, List.setIfInBounds_toArray, List.set_cons_zero, List.set_cons_succ]
            refine r_val (v := ?qv94) (by kernel_rfl) (fun W hW => ?qh94) ?qr94
            case qh94 =>
              go_light
              go_simp
              rfl
            simp only [Act.put, List.setIfInBounds_toArray, List.set_cons_zero, List.set_cons_succ]
            refine r_val (v := ?qv95) (by kernel_rfl) (fun W hW => ?qh95) ?qr95
            case qh95 =>
              go_light
              go_simp
              rfl
            simp only [Act.put, List.setIfInBounds_toArray, List.set_cons_zero, List.set_cons_succ]
            refine r_val (v := ?qv96) (by kernel_rfl) (fun W hW => ?qh96) ?qr96
            case qh96 =>
              go_light
              go_simp
              rfl
            simp only [Act.put, List.setIfInBounds_toArray, List.set_cons_zero, List.set_cons_succ]
            refine r_val (v := ?qv97) (by kernel_rfl) (fun W hW => ?qh97) ?qr97
            case qh97 =>
              have q0 := (Below.cell hW (p := ⟨R, 0, none⟩) hz).trans c0
              go_light
              go_simp
              rfl
            simp only [Act.put, List.setIfInBounds_toArray, List.set_cons_zero, List.set_cons_succ]
            refine r_val (v := ?qv98) (by kernel_rfl) (fun W hW => ?qh98) ?qr98
            case qh98 =>
              go_light
              go_simp
              rfl
            simp only [Act.put, List.setIfInBounds_toArray, List.set_cons_zero, List.set_cons_succ]
            refine r_val (v := ?qv99) (by kernel_rfl) (fun W hW => ?qh99) ?qr99
            case qh99 =>
              go_light
              go_simp
              rfl
            simp only [Act.put, List.setIfInBounds_toArray, List.set_cons_zero, List.set_cons_succ]
            refine r_val (v := ?qv100) (by kernel_rfl) (fun W hW => ?qh100) ?qr100
            case qh100 =>
              go_light
              go_simp
              rfl
            simp only [Act.put, List.setIfInBounds_toArray, List.set_cons_zero, List.set_cons_succ]
            refine r_val (v := ?qv101) (by kernel_rfl) (fun W hW => ?qh101) ?qr101
            case qh101 =>
              have q1 := (Below.cell hW (p := ⟨R, 1, none⟩) hz).trans c1
              go_light
              go_simp
              rfl
            simp only [Act.put, List.setIfInBounds_toArray, List.set_cons_zero, List.set_cons_succ]
            refine r_val (v := ?qv102) (by kernel_rfl) (fun W hW => ?qh102) ?qr102
            case qh102 =>
              go_light
              go_simp
              rfl
            simp only [Act.put, List.setIfInBounds_toArray, List.set_cons_zero, List.set_cons_succ]
            refine r_val (v := ?qv103) (by kernel_rfl) (fun W hW => ?qh103) ?qr103
            case qh103 =>
              go_light
              go_simp
              rfl
            simp only [Act.put, List.setIfInBounds_toArray, List.set_cons_zero, List.set_cons_succ]
            refine r_val (v := ?qv104) (by kernel_rfl) (fun W hW => ?qh104) ?qr104
            case qh104 =>
              go_light
              go_simp
              rfl
            simp only [Act.put, List.setIfInBounds_toArray, List.set_cons_zero, List.set_cons_succ]
            refine r_nil ?_
            intro w8 hw8
            go_wp2_with (fail)
            go_end0
            exact (I.gr hw8).ret HE.out
          · have y1 : ((s[n1].toNat : Int) == 124) = false := by rw [hdc]; simp; omega
            have y2 : ((s[n1].toNat : Int) == 41) = false := by rw [hdc]; simp; omega
            have z1 : ((s[n1].toNat : Int) != 124) = true := by rw [bne, y1]; rfl
            have z2 : ((s[n1].toNat : Int) != 41) = true := by rw [bne, y2]; rfl
            have HR := Lib.hid (And.intro hb1 (And.intro hr2 (show endR q1.rest = false by rw [hr2]; simp [endR, h124, h41])))
            clear hb1 hr2 hdc h124 h41
            go_upto_region 0 with (fail)
            refine region_R (by kernel_rfl) (by kernel_rfl) ?_
            refine r_val (v := ?qv105) (by kernel_rfl) (fun W hW => ?qh105) ?qr105
            case qh105 =>
              go_light
              go_simp
              rfl
            simp only [Act.put, List.setIfInBounds_toArray, List.set_cons_zero, List.set_cons_succ]
            refine r_val (v := ?qv106) (by kernel_rfl) (fun W hW => ?qh106) ?qr106
            case qh106 =>
              go_light
              go_simp
              rfl
            simp only [Act.put, List.setIfInBounds_toArray, List.set_cons_zero, List.set_cons_succ]
            refine r_val (v := ?qv107) (by kernel_rfl) (fun W hW => ?qh107) ?qr107
            case qh107 =>
              go_light
              go_simp
              rfl
            simp only [Act.put, List.setIfInBounds_toArray, List.set_cons_zero, List.set_cons_succ]
            refine r_val (v := ?qv108) (by kernel_rfl) (fun W hW => ?qh108) ?qr108
            case qh108 =>
              have q3 := (Below.cell hW (p := ⟨R, 3, none⟩) hz).trans c3
              go_light
              go_simp
              rfl
            simp only [Act.put, List.setIfInBounds_toArray, List.set_cons_zero, List.set_cons_succ]
            refine r_val (v := ?qv109) (by kernel_rfl) (fun W hW => ?qh109) ?qr109
            case qh109 =>
              go_light
              go_simp
              rfl
            simp only [Act.put, List.setIfInBounds_toArray, List.set_cons_zero, List.set_cons_succ]
            refine r_val (v := ?qv110) (by kernel_rfl) (fun W hW => ?qh110) ?qr110
            case qh110 =>
              go_light
              go_simp
              rfl
            simp only [Act.put, List.setIfInBounds_toArray, List.set_cons_zero, List.set_cons_succ]
            refine r_val (v := ?qv111) (by kernel_rfl) (fun W hW => ?qh111) ?qr111
            case qh111 =>
              go_light
              go_simp
              rfl
            simp only [Act.put, List.setIfInBounds_toArray, List.set_cons_zero, List.set_cons_succ]
            refine r_val (v := ?qv112) (by kernel_rfl) (fun W hW => ?qh112) ?qr112
            case qh112 =>
              go_light
              go_simp
              rfl
            simp only [Act.put, List.setIfInBounds_toArray, List.set_cons_zero, List.set_cons_succ]
            refine r_val (v := ?qv113) (by kernel_rfl) (fun W hW => ?qh113) ?qr113
            case qh113 =>
              go_light
              go_simp
              rfl
            simp only [Act.put, List.setIfInBounds_toArray, List.set_cons_zero, List.set_cons_succ]
            refine r_val (v := ?qv114) (by kernel_rfl) (fun W hW => ?qh114) ?qr114
            case qh114 =>
              have q1 := (Below.cell hW (p := ⟨R, 1, none⟩) hz).trans c1
              go_light
              go_simp
              rfl
            simp only [Act.put, List.setIfInBounds_toArray, List.set_cons_zero, List.set_cons_succ]
            refine r_val (v := ?qv115) (by kernel_rfl) (fun W hW => ?qh115) ?qr115
            case qh115 =>
              go_light
              go_simp
              rfl
            simp only [Act.put, List.setIfInBounds_toArray, List.set_cons_zero, List.set_cons_succ]
            refine r_val (v := ?qv116) (by kernel_rfl) (fun W hW => ?qh116) ?qr116
            case qh116 =>
              go_light
              go_simp
              rfl
            simp only [Act.put, List.setIfInBounds_toArray, List.set_cons_zero, List.set_cons_succ]
            refine r_val (v := ?qv117) (by kernel_rfl) (fun W hW => ?qh117) ?qr117
            case qh117 =>
              go_light
              go_simp
              rfl
            simp only [Act.put, List.setIfInBounds_toArray, List.set_cons_zero, List.set_cons_succ]
            refine r_val (v := ?qv118) (by kernel_rfl) (fun W hW => ?qh118) ?qr118
            case qh118 =>
              have q0 := (Below.cell hW (p := ⟨R, 0, none⟩) hz).trans c0
              go_light
              go_simp
              rfl
            simp only [Act.put, List.setIfInBounds_toArray, List.set_cons_zero, List.set_cons_succ]
            refine r_val (v := ?qv119) (by kernel_rfl) (fun W hW => ?qh119) ?qr119
            case qh119 =>
              go_light
              go_simp
              rfl
            simp only [Act.put, List.setIfInBounds_toArray, List.set_cons_zero, List.set_cons_succ]
            refine r_val (v := ?qv120) (by kernel_rfl) (fun W hW => ?qh120) ?qr120
            case qh120 =>
              go_light
              go_simp
              rfl
            simp only [Act.put, List.setIfInBounds_toArray, List.set_cons_zero, List.set_cons_succ]
            refine r_val (v := ?qv121) (by kernel_rfl) (fun W hW => ?qh121) ?qr121
            case qh121 =>
              go_light
              go_simp
              rfl
            simp only [Act.put, List.setIfInBounds_toArray, List.set_cons_zero, List.set_cons_succ]
            refine r_val (v := ?qv122) (by kernel_rfl) (fun W hW => ?qh122) ?qr122
            case qh122 =>
              go_light
              go_simp
              rfl
            simp only [Act.put, List.setIfInBounds_toArray, List.set_cons_zero, List.set_cons_succ]
            refine r_val (v := ?qv123) (by kernel_rfl) (fun W hW => ?qh123) ?qr123
            case qh123 =>
              go_light
              go_simp
              rfl
            simp only [Act.put, List.setIfInBounds_toArray, List.set_cons_zero, List.set_cons_succ]
            refine r_val (v := ?qv124) (by kernel_rfl) (fun W hW => ?qh124) ?qr124
            case qh124 =>
              go_light
              go_simp
              rfl
            simp only [Act.put, List.setIfInBounds_toArray, List.set_cons_zero, List.set_cons_succ]
            refine r_val (v := ?qv125) (by kernel_rfl) (fun W hW => ?qh125) ?qr125
            case qh125 =>
              go_light
              go_simp
              rfl
            simp only [Act.put, List.setIfInBounds_toArray, List.set_cons_zero, List.set_cons_succ]
            refine r_val (v := ?qv126) (by kernel_rfl) (fun W hW => ?qh126) ?qr126
            case qh126 =>
              have q0 := (Below.cell hW (p := ⟨R, 0, none⟩) hz).trans c0
              go_light
              go_simp
              rfl
            simp only [Act.put, List.setIfInBounds_toArray, List.set_cons_zero, List.set_cons_succ]
            refine r_val (v := ?qv127) (by kernel_rfl) (fun W hW => ?qh127) ?qr127
            case qh127 =>
              go_light
              go_simp
              rfl
            simp only [Act.put, List.setIfInBounds_toArray, List.set_cons_zero, List.set_cons_succ]
            refine r_val (v := ?qv128) (by kernel_rfl) (fun W hW => ?qh128) ?qr128
            case qh128 =>
              go_light
              go_simp
              rfl
            simp only [Act.put, List.setIfInBounds_toArray, List.set_cons_zero, List.set_cons_succ]
            refine r_val (v := ?qv129) (by kernel_rfl) (fun W hW => ?qh129) ?qr129
            case qh129 =>
              go_light
              go_simp
              rfl
            simp only [Act.put, List.setIfInBounds_toArray, List.set_cons_zero, List.set_cons_succ]
            refine r_val (v := ?qv130) (by kernel_rfl) (fun W hW => ?qh130) ?qr130
            case qh130 =>
              have q1 := (Below.cell hW (p := ⟨R, 1, none⟩) hz).trans c1
              go_light
              go_simp
              rfl
            simp only [Act.put, List.setIfInBounds_toArray, List.set_cons_zero, List.set_cons_succ]
            refine r_val (v := ?qv131) (by kernel_rfl) (fun W hW => ?qh131) ?qr131
            case qh131 =>
              go_light
              go_simp
              rfl
            simp only [Act.put, List.setIfInBounds_toArray, List.set_cons_zero, List.set_cons_succ]
            refine r_val (v := ?qv132) (by kernel_rfl) (fun W hW => ?qh132) ?qr132
            case qh132 =>
              go_light
              go_simp
              rfl
            simp only [Act.put, List.setIfInBounds_toArray, List.set_cons_zero, List.set_cons_succ]
            refine r_val (v := ?qv133) (by kernel_rfl) (fun W hW => ?qh133) ?qr133
            case qh133 =>
              go_light
              go_simp
              rfl
            simp only [Act.put, List.setIfInBounds_toArray, List.set_cons_zero, List.set_cons_succ]
            refine r_val (v := ?qv134) (by kernel_rfl) (fun W hW => ?qh134) ?qr134
            case qh134 =>
              go_light
              go_simp
              rfl
            simp only [Act.put, List.setIfInBounds_toArray, List.set_cons_zero, List.set_cons_succ]
            refine r_val (v := ?qv135) (by kernel_rfl) (fun W hW => ?qh135) ?qr135
            case qh135 =>
              go_light
              go_simp
              rfl
            simp only [Act.put, List.setIfInBounds_toArray, List.set_cons_zero, List.set_cons_succ]
            refine r_val (v := ?qv136) (by kernel_rfl) (fun W hW => ?qh136) ?qr136
            case qh136 =>
              go_light
              go_simp
              rfl
            simp only [Act.put, List.setIfInBounds_toArray, List.set_cons_zero, List.set_cons_succ]
            refine r_val (v := ?qv137) (by kernel_rfl) (fun W hW => ?qh137) ?qr137
            case qh137 =>
              go_light
              go_simp
              rfl
            simp only [Act.put, List.setIfInBounds_toArray, List.set_cons_zero, List.set_cons_succ]
            refine r_val (v := ?qv138) (by kernel_rfl) (fun W hW => ?qh138) ?qr138
            case qh138 =>
              have q0 := (Below.cell hW (p := ⟨R, 0, none⟩) hz).trans c0
              go_light
              go_simp
              rfl
            simp only [Act.put, List.setIfInBounds_toArray, List.set_cons_zero, List.set_cons_succ]
            refine r_val (v := ?qv139) (by kernel_rfl) (fun W hW => ?qh139) ?qr139
            case qh139 =>
              go_light
              go_simp
              rfl
            simp only [Act.put, List.setIfInBounds_toArray, List.set_cons_zero, List.set_cons_succ]
            refine r_val (v := ?qv140) (by kernel_rfl) (fun W hW => ?qh140) ?qr140
            case qh140 =>
              go_light
              go_simp
              rfl
            simp only [Act.put, List.setIfInBounds_toArray, List.set_cons_zero, List.set_cons_succ]
            refine r_val (v := ?qv141) (by kernel_rfl) (fun W hW => ?qh141) ?qr141
            case qh141 =>
              go_light
              go_simp
              rfl
            simp only [Act.put, List.setIfInBounds_toArray, List.set_cons_zero, List.set_cons_succ]
            refine r_val (v := ?qv142) (by kernel_rfl) (fun W hW => ?qh142) ?qr142
            case qh142 =>
              have q1 := (Below.cell hW (p := ⟨R, 1, none⟩) hz).trans c1
              go_light
              go_simp
              rfl
            simp only [Act.put, List.setIfInBounds_toArray, List.set_cons_zero, List.set_cons_succ]
            refine r_val (v := ?qv143) (by kernel_rfl) (fun W hW => ?qh143) ?qr143
            case qh143 =>
              go_light
              go_simp
              rfl
            simp only [Act.put, List.setIfInBounds_toArray, List.set_cons_zero, List.set_cons_succ]
            refine r_val (v := ?qv144) (by kernel_rfl) (fun W hW => ?qh144) ?qr144
            case qh144 =>
              go_light
              go_simp
              rfl
            simp only [Act.put, List.setIfInBounds_toArray, List.set_cons_zero, List.set_cons_succ]
            refine r_val (v := ?qv145) (by kernel_rfl) (fun W hW => ?qh145) ?qr145
            case qh145 =>
              go_light
              go_simp
              rfl
            simp only [Act.put, List.setIfInBounds_toArray, List.set_cons_zero, List.set_cons_succ]
            refine r_nil ?_
            intro w8 hw8
            have I2 := I.gr hw8
            obtain ⟨hb1, hr2, hend⟩ := HR.out
            obtain ⟨j1, j2, j3, j4, j5, j6, j7, j8, j9⟩ := I2.good.out hb1
            have hlen := I2.len.2
            rw [hb1, cond_false] at hlen
            have h8 : RfS w8 R s n1 q1 A1 code1 := ⟨by have := I2.h; rw [show errE q1 = 0 by simp only [errE, hb1, j1]; rfl, j4, j5] at this; exact this, j2, j3⟩
            have HC := Lib.hid (HPP.out w8 n1 q1 A1 code1 d r h8 hr2 ⟨j1, hb1⟩ j6 (by omega) j9 j8)
            clear h8 j1 j2 j3 j4 j5 j6 j7 j8 j9 hb1 hr2 hend hlen c0 c1 c3 hl y1 y2 z1 z2
            have HN : Hid (∀ x w9, RetR w8 R s q1 A1 code1 (pieceS Wf q1).1 (pieceS Wf q1).2 x w9 → x = .returned (.tuple #[]) ∧ Hid (RowX R N w s Wf q A code T w9 ∧ rfM R s.size w9 < rfM R s.size w8)) := Lib.hid fun x w9 hp => ⟨hp.1, Lib.hid (I2.next Hx.out.1 Hx.out.2 hb HR.out.1 HR.out.2.1 HR.out.2.2 hp)⟩
            have Hm : Hid (rfM R s.size w8 = rfM R s.size wr) := Lib.hid (by rw [I.h.m, I2.h.m])
            clear I I2 HR
            go_wp2_with (go_at_call 30; refine HC.out.mono ?_; rintro x w9 hp; obtain ⟨rfl, hnx⟩ := HN.out x w9 hp; clear hp)
            go_roundw
            case rel => first | exact hnx.out.1 | exact ⟨hnx.out.1, rfl⟩
            case measure => have := hnx.out.2; rw [Hm.out] at this; exact this
end Go.Proofs.Ytpcmdijgepbilaa
