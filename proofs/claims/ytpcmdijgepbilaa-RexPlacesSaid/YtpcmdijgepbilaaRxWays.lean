/- The contract of rex.reader.ways. -/
import Derived.Test.YtpcmdijgepbilaaRxRow
namespace Go.Proofs.Ytpcmdijgepbilaa
set_option linter.unusedVariables false
set_option linter.unusedSimpArgs false
open Go.RowKit

/-- what follows a way. -/
def contS (Wf : Rs → Pc × Rs) (k : Nat) (q : Rs) : PcL × Rs := bif !q.bad && headIs 124 q.rest then altS Wf k { q with rest := q.rest.drop 1 } else (.nil, q)
theorem altS_cont (Wf : Rs → Pc × Rs) (k : Nat) (q : Rs) : altS Wf (k + 1) q = (.cons (rowP Wf q).1 (contS Wf k (rowP Wf q).2).1, (contS Wf k (rowP Wf q).2).2) := by
  conv => lhs; unfold altS
  unfold contS
  generalize rowP Wf q = t
  simp only
  cases (!t.2.bad && headIs 124 t.2.rest) <;> rfl
structure WysI (R : Nat) (w0 : World) (s : ByteArray) (Wf : Rs → Pc × Rs) (T : PcL × Rs) (wr : World) (m : Nat) (q : Rs) (k N c : Nat) (A : Option Addr) (l : List Pc) (bs : List Nat) : Prop where
  h : Rdr wr R s m q
  x : GX R w0 wr
  own : wr.ownsRow w0.heap.size 46 1 (.slice A N c) N (ptrs bs)
  kids : Kids (some (w0.heap.size - 1)) (Value.slice A N c).ownBlock wr l bs
  hN : N = bs.length
  hc : Hid ((PcL.ofList l).app (contS Wf k q).1 = T.1 ∧ (contS Wf k q).2 = T.2)
section
variable {R : Nat} {w0 : World} {s : ByteArray} {Wf : Rs → Pc × Rs} {T : PcL × Rs} {wr w' : World} {m : Nat} {q : Rs} {k N c : Nat} {A : Option Addr} {l : List Pc} {bs : List Nat}
theorem WysI.gr (I : WysI R w0 s Wf T wr m q k N c A l bs) (g : Gr wr w') (hR : R < w0.heap.size) : WysI R w0 s Wf T w' m q k N c A l bs :=
  ⟨I.h.gr g, I.x.trans (GX.of_gr g), own_gx I.own (GX.of_gr (R := R) g) hR, I.kids.gr g, I.hN, I.hc⟩
theorem WysI.single {N' : Nat} (I : WysI R w0 s Wf T wr m q k N' c A l bs) (h : N' = 1) : ∃ p b, l = [p] ∧ bs = [b] := by
  have hN := I.hN
  have hl := I.kids.1
  match l, bs, hl, hN with
  | [p], [b], _, _ => exact ⟨p, b, rfl, rfl⟩
  | [], bs, hl, hN => simp at hl; omega
  | p :: p' :: l, bs, hl, hN => simp at hl; omega
theorem WysI.ret1 {p : Pc} {b : Nat} (I : WysI R w0 s Wf T wr m q k 1 c A [p] [b]) (e : contS Wf k q = (.nil, q)) : RetP R s w0 (lone T.1) T.2 (.returned (.pointer (some ⟨b, 0, none⟩))) wr := by
  have hc := I.hc.out
  rw [e] at hc
  simp only [PcL.app_nil] at hc
  rw [← hc.1, ← hc.2]
  have hk := I.kids.list
  simp only [PcL.ofList, PcL.In] at hk
  obtain ⟨b', r, e', hp, _⟩ := hk
  injection e' with e' _
  subst e'
  exact ⟨b, m, rfl, hp, I.x, I.h⟩
theorem lone_ways (l : List Pc) (h : l.length ≠ 1) : lone (PcL.ofList l) = .ways (PcL.ofList l) := by
  match l, h with
  | [], _ => rfl
  | [p], h => simp at h
  | p :: p' :: l, _ => rfl
theorem WysI.ret2 (I : WysI R w0 s Wf T wr m q k N c A l bs) (e : contS Wf k q = (.nil, q)) (h1 : N ≠ 1) (hR0 : R < w0.heap.size) : RetP R s w0 (lone T.1) T.2 (.returned (.pointer (some ⟨wr.heap.size, 0, none⟩))) (wr.alloc (.cells #[.int .i64 11, .string ⟨#[]⟩, .slice A N c, .int .i64 0, .bool false] 62)) := by
  have hc := I.hc.out
  rw [e] at hc
  simp only [PcL.app_nil] at hc
  have hN := I.hN
  subst hN
  rw [← hc.1, ← hc.2, lone_ways l (by rw [I.kids.1]; exact h1)]
  have g : Gr wr (wr.alloc (.cells #[.int .i64 11, .string ⟨#[]⟩, .slice A bs.length c, .int .i64 0, .bool false] 62)) := Gr.alloc (Gr.refl _) _
  have hx := I.x.size
  refine ⟨wr.heap.size, m, rfl, ?_, I.x.alloc _, I.h.gr g⟩
  simp only [Pc.In]
  have hR := I.h.lt
  have hzz : w0.heap.size - 1 < wr.heap.size := by omega
  refine ⟨hzz, by simp, .slice A bs.length c, bs, node_new wr 11 0 [] _ false, ⟨A, c, rfl, ?_, fun h0 ad ha => ?_⟩, PcL.In.wide (Nat.le_refl _) g.size _ _ (PcL.In.same (Same.gr g (Nat.le_refl _)) _ _ I.kids.list)⟩
  · exact Rd.gr (Rd.own I.own) g
  · obtain ⟨_, ⟨hv, h0'⟩ | ⟨g', cap, cur, hv, hb, hh, _⟩⟩ := I.own
    · omega
    · injection hv with hv1 _ _
      rw [ha] at hv1
      injection hv1 with hv1
      subst hv1
      have := (Array.getElem?_eq_some_iff.1 hh).1
      exact ⟨by show w0.heap.size - 1 < g'; omega, by show g' < _; simp; omega⟩
end

set_option maxRecDepth 100000 in
set_option maxHeartbeats 3200000 in
theorem ways_row {w : World} {R n0 : Nat} {s : ByteArray} {q : Rs} (Wf : Rs → Pc × Rs) (hWf : ∀ s, Gd 0 s (Wf s).2) (h : Rdr w R s n0 q) (hs : (s.size : Int) ≤ 4096) (n : Nat) (hn : q.rest.length ≤ n) (hB : Bd q)
    (HR : ∀ W m q, Rdr W R s m q → q.rest.length ≤ n → Bd q → Calls Try.prog 19 #[.pointer (some ⟨R, 0, none⟩)] W (RetP R s W (rowP Wf q).1 (rowP Wf q).2)) :
    Calls Try.prog 12 #[.pointer (some ⟨R, 0, none⟩)] w (RetP R s w (lone (altS Wf (q.rest.length + 1) q).1) (altS Wf (q.rest.length + 1) q).2) := by
  obtain ⟨i0, hi0, hz0, hz1, hz2⟩ := info_parts info_ptr
  have hgd : ∀ q, Gd 0 q (rowP Wf q).2 := fun q => rowS_gd hWf _ q
  rw [altS_cont]
  obtain ⟨T, hT⟩ : ∃ T, (PcL.cons (rowP Wf q).1 (contS Wf q.rest.length (rowP Wf q).2).1, (contS Wf q.rest.length (rowP Wf q).2).2) = T := ⟨_, rfl⟩
  rw [hT]
  have HT := Lib.hid hT
  clear hT
  have hR := h.lt
  have QR := HR _ _ _ h hn hB
  go_enter Try.func12, Try.ntmps12
  go_upto_region 2 with (go_at_call 19; refine QR.mono ?_; rintro e w5 ⟨b, m5, rfl, k5, x5, h5⟩)
  have I0 : WysI R w s Wf T (w5.alloc (.cells #[.pointer (some ⟨b, 0, none⟩)] 46)) m5 (rowP Wf q).2 q.rest.length 1 1 (some ⟨w5.heap.size, 0, none⟩) [(rowP Wf q).1] [b] := by
    have gA : Gr w5 (w5.alloc (.cells #[.pointer (some ⟨b, 0, none⟩)] 46)) := Gr.alloc (Gr.refl w5) _
    have z5 := x5.size
    refine ⟨h5.gr gA, x5.alloc _, World.ownsRow_lit w5 #[.pointer (some ⟨b, 0, none⟩)] 1 z5 (by unfold maxLen; omega) (by simp), ⟨rfl, fun i hi hi' => ?_⟩, rfl, Lib.hid (by rw [← HT.out]; exact ⟨rfl, rfl⟩)⟩
    have : i = 0 := by simp at hi; exact hi
    subst this
    refine ⟨w.heap.size - 1, w5.heap.size, Pc.In.same (Same.gr gA (Nat.le_refl _)) _ _ k5, fun k hk => by injection hk with hk; omega, gA.size, fun k hk => .inr ?_⟩
    injection hk with hk
    show w5.heap.size ≤ k
    exact Nat.le_of_eq hk
  have hl0 := (hgd q).r
  have hB0 := (hgd q).bd hB
  have hm0 : 1 ≤ m5 + 1 := by omega
  clear k5 x5 h5 QR h
  generalize (w5.alloc (.cells #[.pointer (some ⟨b, 0, none⟩)] 46)) = w1 at I0 ⊢
  go_loopw [3] (fun v wr => ∃ m q k N c A l bs, v = .slice A N c ∧ WysI R w s Wf T wr m q k N c A l bs ∧ q.rest.length ≤ k ∧ q.rest.length ≤ n ∧ Bd q ∧ N ≤ m + 1) (fun _ wr => s.size - rdN R wr)
  case atStart => exact ⟨m5, _, _, 1, 1, _, _, _, rfl, I0, hl0, by omega, hB0, hm0⟩
  case round =>
    clear I0 hl0 hB0 hm0 hB hn HT
    obtain ⟨m, q, k, N, c, A, l, bs, rfl, I, hk, hqn, hB, hNm⟩ := hrel
    have Hmn := Lib.hid I.h.n
    have hlen := I.h.len
    obtain ⟨c4, f4⟩ := And.intro I.h.c4 I.h.f4
    rcases Bool.eq_false_or_eq_true q.bad with hb | hb
    · rw [hb] at c4
      have HE : Hid ((!q.bad && headIs 124 q.rest) = false) := Lib.hid (by rw [hb]; rfl)
      have e1 : contS Wf k q = (.nil, q) := by unfold contS; rw [HE.out]; rfl
      by_cases h1 : N = 1
      · obtain ⟨p, b, rfl, rfl⟩ := I.single h1
        subst h1
        obtain ⟨g', rfl⟩ : ∃ g', A = some ⟨g', 0, none⟩ := by
          obtain ⟨_, ⟨_, h0'⟩ | ⟨g', cap, cur, hv, _⟩⟩ := I.own
          · cases h0'
          · injection hv with hv1 _ _
            exact ⟨g', hv1⟩
        have hc0 : _ = some (Value.pointer (some ⟨b, 0, none⟩)) := I.own.cellAt 0 (by decide)
        go_wp2
        go_ret
        exact I.ret1 e1
      · have hN1 : ((N : Int) == 1) = false := beq_eq_false_iff_ne.2 (by omega)
        have HR := I.ret2 e1 h1 hR
        go_wp2
        go_ret
        exact HR
    · rw [hb] at c4
      cases h124 : headIs 124 q.rest
      · have QT := takes_no I.h hs 124 (by decide) h124
        have HE : Hid ((!q.bad && headIs 124 q.rest) = false) := Lib.hid (by rw [hb, h124]; rfl)
        go_upto_region 4 with (go_at_call 20; refine QT.mono ?_; rintro e w4 ⟨rfl, g4⟩)
        have I := I.gr g4 hR
        have e1 : contS Wf k q = (.nil, q) := by unfold contS; rw [HE.out]; rfl
        by_cases h1 : N = 1
        · obtain ⟨p, b, rfl, rfl⟩ := I.single h1
          subst h1
          obtain ⟨g', rfl⟩ : ∃ g', A = some ⟨g', 0, none⟩ := by
            obtain ⟨_, ⟨_, h0'⟩ | ⟨g', cap, cur, hv, _⟩⟩ := I.own
            · cases h0'
            · injection hv with hv1 _ _
              exact ⟨g', hv1⟩
          have hc0 : _ = some (Value.pointer (some ⟨b, 0, none⟩)) := I.own.cellAt 0 (by decide)
          go_wp2
          go_ret
          exact I.ret1 e1
        · have hN1 : ((N : Int) == 1) = false := beq_eq_false_iff_ne.2 (by omega)
          have HR := I.ret2 e1 h1 hR
          go_wp2
          go_ret
          exact HR
      · have QT := takes_yes I.h hs 124 (by decide) h124
        obtain ⟨d, r, hq, -⟩ := headIs_cons h124
        have hl1 : q.rest.length = r.length + 1 := by rw [hq]; rfl
        have hd1 : q.rest.drop 1 = r := by rw [hq]; rfl
        obtain ⟨k, rfl⟩ : ∃ j, k = j + 1 := ⟨k - 1, by omega⟩
        have e1 : contS Wf (k + 1) q = (.cons (rowP Wf { q with rest := r }).1 (contS Wf k (rowP Wf { q with rest := r }).2).1, (contS Wf k (rowP Wf { q with rest := r }).2).2) := by
          conv => lhs; unfold contS
          rw [hb, h124, hd1]
          have e2 : ({ rest := r, groups := q.groups, deep := q.deep, bad := false, over := q.over } : Rs) = { q with rest := r } := by rw [hb]
          rw [e2, altS_cont]
          rfl
        rw [hd1] at QT
        have hB2 : Bd { q with rest := r } := ⟨by have := hB.1; simp only; omega, by have := hB.2; simp only; omega⟩
        have hg := hgd { q with rest := r }
        have hgr := hg.r
        simp only at hgr
        have HN := Lib.hid I.hN
        go_upto_region 3 with (go_at_call 20; refine QT.mono ?_; rintro e w4 ⟨rfl, x4, h4⟩)
        have own4 := own_gx I.own x4 hR
        have kids4 := I.kids.gx x4 (by omega)
        have xw4 := I.x.trans x4
        have QR := HR _ _ _ h4 (by simp only; omega) hB2
        have hc := I.hc
        clear I QT c4 f4 x4 h4
        go_wp2_with (first
          | (go_at_call 19; refine QR.mono ?_; rintro e w5 ⟨b, m5, rfl, k5, x5, h5⟩; have gA : Gr w5 (w5.alloc (.cells #[.pointer (some ⟨b, 0, none⟩)] 46)) := Gr.alloc (Gr.refl w5) _; have own6 := own_gx (own_gx own4 x5 hR) (GX.of_gr (R := R) gA) hR; have kids6 := (kids4.gx x5 (by omega)).gr gA; have hrx : Rd (w5.alloc (.cells #[.pointer (some ⟨b, 0, none⟩)] 46)) 1 (some ⟨w5.heap.size, 0, none⟩) 1 (ptrs [b]) := Rd.byte (W := w5) rfl 46 (.pointer (some ⟨b, 0, none⟩)); have k6 := Pc.In.same (Same.gr gA (Nat.le_refl _)) _ _ k5; have xw6 := (xw4.trans x5).trans (GX.of_gr gA); have h6 := h5.gr gA; have z6 : (w5.alloc (.cells #[.pointer (some ⟨b, 0, none⟩)] 46)).heap.size = w5.heap.size + 1 := (by simp); have z5 := x5.size; have zw4 := xw4.size; have hvo := own4.lt; have hvl := own6.lt; have hm5 := h6.len)
          | (at_builtin; refine wpList_append_rd rfl (.tmp 18) (.tmp 21) 59 rfl w.heap.size 46 i0 _ 1 8 Try.underlying59 hi0 hz0 hz1 hz2 rfl (by decide) _ N _ rfl own6 (some ⟨w5.heap.size, 0, none⟩) 1 1 (ptrs [b]) rfl hrx (ptrs_one _) (by unfold maxLen; omega) (by omega) (by omega) ?_; intro v' w9 own9 hgr9 hob9; obtain ⟨A9, c9, hv9⟩ := own_form own9; subst hv9))
        have xw9 := xw6.grown hgr9 (fun j hj => (hvl j hj).1)
        have h9 := h6.grown hgr9 (fun e => by have := hvl _ e; omega)
        have kids9 := kids6.push hgr9 hob9 k6 (by omega) (by omega) (fun j hj => by have := hvo j hj; omega)
        rw [← ptrs_append] at own9
        go_roundw
        case rel => exact ⟨m5, _, k, N + 1, c9, A9, l ++ [(rowP Wf { q with rest := r }).1], bs ++ [b], rfl, ⟨h9, xw9, own9, kids9, by rw [HN.out]; simp, Lib.hid (by have := hc.out; rw [e1] at this; rw [PcL.app_snoc]; exact this)⟩, by omega, by omega, hg.bd hB2, by omega⟩
        case measure => rw [Hmn.out, h9.n]; omega
end Go.Proofs.Ytpcmdijgepbilaa
