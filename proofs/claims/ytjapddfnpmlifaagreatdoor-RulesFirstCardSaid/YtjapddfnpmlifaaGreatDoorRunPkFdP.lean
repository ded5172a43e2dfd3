/- Find of the program: how far it is, in memory, and what that says; no walk. · Find of the program: its calls of adds and of step, in the words of how far it is. -/
import Derived.Test.YtjapddfnpmlifaaGreatDoorRunPkStp
namespace Go.Proofs.YtjapddfnpmlifaaGreatDoor
set_option linter.unusedVariables false
set_option linter.unusedSimpArgs false
open Go.RowKit Go.Maps

/-- reached from anywhere up to the end, at place p. -/
def RcP (code : List In) (t : List UInt8) (p : Nat) (x : Int) : Prop := Rc code t (fun i => i ≤ t.length) x p
/-- nothing is found at the places below p. -/
def NoB (code : List In) (t : List UInt8) (p : Nat) : Prop := ∀ (k : Nat) (hk : k < code.length) (q : Nat), q < p → Rc code t (fun i => i ≤ t.length) k q → code[k].op ≠ 7
/-- what a byte led to lies in S. -/
def ByB (code : List In) (t : List UInt8) (p : Nat) (S : Int → Bool) : Prop := ∀ (k : Nat) (hk : k < code.length) (p' : Nat), p = p' + 1 → Rc code t (fun i => i ≤ t.length) k p' → code[k].op = 1 → ∀ q ∈ succS code t k p', InR code q.1 → S q.1 = true
/-- the list l at place p: blocks hl, B; made since w0. -/
structure FdL (n : Nat) (code : List In) (t : List UInt8) (p : Nat) (Q : Int → Prop) (w0 : World) (hl : Nat) (wr : World) (B : Nat) (b0 : Nat) (v : Value) (W : List Pw) (Wn : List Nat) (S : Int → Bool) (nB : Nat) : Prop where
 gr : Gr w0 wr
 lo : w0.heap.size ≤ hl ∧ w0.heap.size ≤ B ∧ b0 ≤ wr.heap.size ∧ ∀ k, v.ownBlock = some k → w0.heap.size ≤ k
 ls : LsM b0 hl B nB wr v W S
 wn : W.map (·.pc) = Wn.map (fun k : Nat => (k : Int))
 law : PkA code t p Q S Wn []
 nb : nB + unseenP S n = n
/-- how far Find is: nothing found yet. -/
def FdN (n : Nat) (code : List In) (t : List UInt8) (p : Nat) (w0 : World) (hl : Nat) (wr : World) : Prop := ∃ B b0 v W Wn S nB, FdL n code t p (RcP code t p) w0 hl wr B b0 v W Wn S nB ∧ NoB code t p ∧ ByB code t p S
/-- found. -/
def FdY (n : Nat) (code : List In) (t : List UInt8) (p : Nat) (w0 : World) (hl : Nat) (wr : World) (fv : Value) : Prop := isC code t = true ∧ (∃ a m, Plc wr fv a m) ∧ ∃ B b0 v W Wn S nB, FdL n code t p (fun _ => True) w0 hl wr B b0 v W Wn S nB
/-- how far Find is. -/
def FdS (n : Nat) (code : List In) (t : List UInt8) (p : Nat) (w0 : World) (hl : Nat) (wr : World) (ob : Bool) (fv : Value) : Prop := (ob = false ∧ fv = .slice none 0 0 ∧ FdN n code t p w0 hl wr) ∨ (ob = true ∧ FdY n code t p w0 hl wr fv)
/-- what Find answers: whether it is. -/
def RetFp (b : Bool) (w : World) (e : Ending) (w' : World) : Prop := ∃ v, e = .returned (.tuple #[v, .bool b]) ∧ Gr w w'
theorem RetFp.of {b c : Bool} {v : Value} {w w' : World} (h : b = c) (g : Gr w w') : RetFp b w (.returned (.tuple #[v, .bool c])) w' := by subst h; exact ⟨v, rfl, g⟩
theorem fd_start (n : Nat) (code : List In) (t : List UInt8) (w : World) {w0 : World} (g : Gr w0 w) : FdN n code t 0 w0 (w.heap.size + 1) ((w.alloc (.map #[] 0)).alloc (.cells #[.slice none 0 0, .map (some w.heap.size)] 123)) := by
 refine ⟨w.heap.size, w.heap.size, _, _, [], _, 0, ⟨g.trans (Gr.alloc (Gr.alloc (Gr.refl w) _) _), ⟨Nat.le_succ_of_le g.size, g.size, by simp; omega, fun k hk => (by cases hk)⟩, LsM.made w, rfl, PkA.none code t 0 _, by rw [unseenP_none]; omega⟩, fun k hk q hq => absurd hq (Nat.not_lt_zero _), fun k hk p' hp => by omega⟩
section
variable {n : Nat} {code : List In} {t : List UInt8} {p : Nat} {w0 wr w2 : World} {hl B b0 : Nat} {v : Value} {W : List Pw} {Wn : List Nat} {S : Int → Bool} {nB : Nat}
/-- all that is reached at p lies in S, once the start has been added. -/
theorem PkA.whole (h : PkA code t p (RcP code t p) S Wn []) (h0 : InR code 0 → S 0 = true) (hb : ByB code t p S) {x : Int} (hr : RcP code t p x) (hi : InR code x) : S x = true :=
 h.all h0 hb hr rfl hi
theorem RcP.closed (k : Nat) (x : Int) (h : RcP code t p k) (hx : x ∈ succE code t k p) : RcP code t p x := h.goes x hx
theorem RcP.byte {k : Nat} (h : RcP code t p k) (hs : SelB code t p k) : RcP code t (p + 1) ((k : Int) + 1) := by
 obtain ⟨hk, hp, h1, h2⟩ := hs
 have := Rc.step _ _ ((k : Int) + 1, p + 1) h (by rw [succS_at hk, if_pos h1, dif_pos hp, if_pos h2]; exact List.mem_singleton.2 rfl)
 exact this
/-- behind a step that met nothing. -/
theorem FdN.next {pv : Value} {j : Nat} {v' : Value} {W' : List Pw} {Wn' : List Nat} {S' : Int → Bool} {nB' : Nat} {wa : World} (hp : p ≤ t.length) (law : PkA code t p (RcP code t p) S Wn []) (hN : NoB code t p) (h0 : InR code 0 → S 0 = true) (hb : ByB code t p S) (hga : Gr w0 wa)
  (I : StI n code t p (RcP code t (p + 1)) Wn wa j w2 v' W' Wn' S' nB') (hj : j = Wn.length) : FdN n code t (p + 1) w0 (wa.heap.size + 1) w2 := by
 subst hj
 have all : ∀ (k : Nat) (hk : k < code.length), Rc code t (fun i => i ≤ t.length) k p → code[k].op = 1 ∨ code[k].op = 7 → ∃ i, i < Wn.length ∧ Wn[i]? = some k := fun k hk hr ho => by
  have hs := law.whole h0 hb hr ⟨by omega, by omega⟩
  have hm := (law.cls k hk hs).1 ho
  obtain ⟨i, hi, e⟩ := List.getElem_of_mem hm
  exact ⟨i, hi, by rw [List.getElem?_eq_getElem hi, e]⟩
 refine ⟨wa.heap.size, wa.heap.size, v', W', Wn', S', nB', ⟨hga.trans I.gr, ⟨Nat.le_succ_of_le hga.size, hga.size, I.gr.size, fun k hk => Nat.le_trans hga.size (I.ov k hk)⟩, I.ls, I.wn, I.law, I.nb⟩, fun k hk q hq hr => ?_, fun k hk p' hpp hr h1 q hq hi => ?_⟩
 ·
  rcases Nat.lt_succ_iff_lt_or_eq.1 hq with h | h
  ·
   exact hN k hk q h hr
  ·
   subst h
   intro h7
   obtain ⟨i, hi, e⟩ := all k hk hr (.inr h7)
   exact (I.all i hi k e).1 hk h7
 ·
  have hpe : p' = p := by omega
  subst hpe
  obtain ⟨i, hi2, e⟩ := all k hk hr (.inl h1)
  rw [succS_at hk, if_pos h1] at hq
  split at hq
  ·
   rename_i hlt
   split at hq
   ·
    rename_i hh
    rw [List.mem_singleton] at hq
    subst hq
    exact (I.all i hi2 k e).2 ⟨hk, hlt, h1, hh⟩ hi
   ·
    cases hq
  ·
   cases hq
/-- a Match is met. -/
theorem FdY.met {pv : Value} {j : Nat} {Q : Int → Prop} {v' : Value} {W' : List Pw} {Wn' : List Nat} {S' : Int → Bool} {nB' : Nat} {wa : World} (hc : isC code t = true) (hga : Gr w0 wa) (I : StI n code t p Q Wn wa j w2 v' W' Wn' S' nB') (hpl : ∃ a m, Plc w2 pv a m) : FdY n code t (p + 1) w0 (wa.heap.size + 1) w2 pv :=
 ⟨hc, hpl, wa.heap.size, wa.heap.size, v', W', Wn', S', nB', ⟨hga.trans I.gr, ⟨Nat.le_succ_of_le hga.size, hga.size, I.gr.size, fun k hk => Nat.le_trans hga.size (I.ov k hk)⟩, I.ls, I.wn, ⟨fun _ _ => trivial, fun x hx => ⟨trivial, (I.law.sS x hx).2⟩, I.law.sW, I.law.cls⟩, I.nb⟩⟩
theorem isC_met (law : PkA code t p (RcP code t p) S Wn []) (h : ∃ k ∈ Wn, ∃ hk : k < code.length, code[k].op = 7) : isC code t = true := by
 obtain ⟨k, hm, hk, h7⟩ := h
 have h1 := (law.sS k (law.sW k hm).1).1
 unfold isC
 exact @decide_eq_true _ (Classical.propDecidable _) ⟨k, p, hk, h1, h7⟩
theorem isC_none (hN : NoB code t (t.length + 1)) : isC code t = false := by
 unfold isC
 refine @decide_eq_false _ (Classical.propDecidable _) ?_
 rintro ⟨k, q, hk, hr, h7⟩
 exact hN k hk q (by have := hr.le; omega) hr h7
/-- the start has been added. -/
theorem FdL.added {e : Ending} {pc : Int} (h : FdL n code t p (RcP code t p) w0 hl wr B b0 v W Wn S nB) (hN : NoB code t p) (hb : ByB code t p S) (r : RetAd b0 hl B nB n code t p (RcP code t p) wr v S pc e w2) :
  ∃ v' W' Wn' S' nB', FdL n code t p (RcP code t p) w0 hl w2 B b0 v' W' Wn' S' nB' ∧ ByB code t p S' ∧ (InR code pc → S' pc = true) := by
 obtain ⟨-, v2, W2, Wn2, S2, nB2, L, hwn, law, hin, hmo, f, ho, hnb⟩ := r
 obtain ⟨l1, l2, l3, l4⟩ := h.lo
 refine ⟨v2, W2, Wn2, S2, nB2, ⟨f.below h.gr (fun x hx => ?_), ⟨l1, l2, Nat.le_trans l3 f.size, fun x hx => ?_⟩, L, hwn, law, by rw [hnb]; exact h.nb⟩, fun k hk p' hp hr h1 q hq hi => hmo _ (hb k hk p' hp hr h1 q hq hi), hin⟩
 ·
  rcases hx with e | e | e
  ·
   omega
  ·
   omega
  ·
   exact l4 x e.symm
 ·
  rcases ho with e | ⟨y, e, hy⟩
  ·
   exact l4 x (by rw [← e]; exact hx)
  ·
   rw [e] at hx; injection hx with hx; subst hx; exact Nat.le_trans h.gr.size hy
theorem FdL.go {Q : Int → Prop} (h : FdL n code t p Q w0 hl wr B b0 v W Wn S nB) (g : Gr wr w2) : FdL n code t p Q w0 hl w2 B b0 v W Wn S nB := by
 obtain ⟨l1, l2, l3, l4⟩ := h.lo
 exact ⟨h.gr.trans g, ⟨l1, l2, Nat.le_trans l3 g.size, l4⟩, h.ls.gr g, h.wn, h.law, h.nb⟩
/-- not one of the list's blocks. -/
theorem FdL.old {Q : Int → Prop} (h : FdL n code t p Q w0 hl wr B b0 v W Wn S nB) {x : Nat} (hx : x < w0.heap.size) : ¬ exA hl B v x := fun e => by
 obtain ⟨l1, l2, l3, l4⟩ := h.lo
 rcases e with e | e | e
 ·
  omega
 ·
  omega
 ·
  have := l4 x e.symm; omega
theorem PkA.ops {Q : Int → Prop} (law : PkA code t p Q S Wn []) : ∀ k ∈ Wn, ∃ h : k < code.length, code[k].op = 1 ∨ code[k].op = 7 := fun k hk => (law.sW k hk).2
end
end Go.Proofs.YtjapddfnpmlifaaGreatDoor
namespace Go.Proofs.YtjapddfnpmlifaaGreatDoor
set_option linter.unusedVariables false
set_option linter.unusedSimpArgs false
open Go.RowKit Go.Maps

/-- what Find knows all along: its walk's block, the program's code, the places that are nowhere. -/
structure FdK (G n cA : Nat) (A : Option Addr) (code : List In) (s : ByteArray) (hw : Nat) (w0 : World) (nv : Value) : Prop where
 hn : n = code.length
 hn2 : n ≤ 2000
 hs : (s.size : Int) ≤ 4096
 hps : ∀ v ∈ code, v.ps.length ≤ 100000
 hw0 : hw < w0.heap.size
 k0 : w0.cell? ⟨hw, 0, none⟩ = some (.int .i64 G)
 k1 : w0.cell? ⟨hw, 1, none⟩ = some (.slice A n cA)
 k2 : w0.cell? ⟨hw, 2, none⟩ = some (.string s)
 hr : Ri w0 A code
 hp : ∃ a m, Plc w0 nv a m
/-- the start has been added at p; nothing found yet. -/
def FdA (n : Nat) (code : List In) (t : List UInt8) (p : Nat) (w0 : World) (hl : Nat) (wr : World) : Prop := ∃ B b0 v W Wn S nB, FdL n code t p (RcP code t p) w0 hl wr B b0 v W Wn S nB ∧ NoB code t p ∧ ByB code t p S ∧ (InR code 0 → S 0 = true)
section
variable {G n cA : Nat} {A : Option Addr} {code : List In} {s : ByteArray} {hw : Nat} {w0 wr : World} {nv : Value} {p hl : Nat}
theorem FdK.cells (K : FdK G n cA A code s hw w0 nv) (g : Gr w0 wr) : wr.cell? ⟨hw, 0, none⟩ = some (.int .i64 G) ∧ wr.cell? ⟨hw, 1, none⟩ = some (.slice A n cA) ∧ wr.cell? ⟨hw, 2, none⟩ = some (.string s) :=
 ⟨(Below.cell g (p := ⟨hw, 0, none⟩) K.hw0).trans K.k0, (Below.cell g (p := ⟨hw, 1, none⟩) K.hw0).trans K.k1, (Below.cell g (p := ⟨hw, 2, none⟩) K.hw0).trans K.k2⟩
theorem FdN.adds_call (K : FdK G n cA A code s hw w0 nv) (h : FdN n code s.data.toList p w0 hl wr) (hp : p ≤ s.size) :
  Calls Tryz.prog 55 #[.pointer (some ⟨hw, 0, none⟩), .pointer (some ⟨hl, 0, none⟩), .agg #[nv, .int .i64 0], .int .i64 p] wr (fun e w' => e = .returned (.tuple #[]) ∧ FdA n code s.data.toList p w0 hl w') := by
 obtain ⟨B, b0, v, W, Wn, S, nB, hL, hN, hB⟩ := h
 obtain ⟨c0, c1, c2⟩ := K.cells hL.gr
 obtain ⟨a, m, hP⟩ := K.hp
 have hpt : p ≤ s.data.toList.length := by simpa using hp
 have haz : a < w0.heap.size := by obtain ⟨c, e, h0, hm, ha, hc⟩ := hP; exact ha
 have hnb := hL.nb
 have hax : 0 < n → ∀ ad, A = some ad → ¬ exA hl B v ad.block := fun h0 ad e => by
  obtain ⟨ad', e', hb, -⟩ := K.hr.2 (by rw [← K.hn]; exact h0)
  rw [e] at e'; injection e' with e'; subst e'
  exact hL.old hb
 have hQ0 : RcP code s.data.toList p 0 := Rc.start p hpt hpt
 have H := padds_any b0 hw hl B nB n cA G A code s p (RcP code s.data.toList p) nv 0 wr v W Wn S K.hn K.hn2 (by omega) K.hs hp c0 c1 c2 (K.hr.gr hL.gr) (hL.old K.hw0) hax hL.ls hL.lo.2.2.1 ⟨a, m, hP.gr hL.gr, hL.old haz⟩ hL.wn hL.law hQ0 RcP.closed
 refine H.mono ?_
 intro e w' r
 have e1 := r.1
 obtain ⟨v', W', Wn', S', nB', hL', hB', hin⟩ := hL.added hN hB r
 exact ⟨e1, B, b0, v', W', Wn', S', nB', hL', hN, hB', hin⟩
theorem FdL.len {Q : Int → Prop} {B b0 : Nat} {v : Value} {W : List Pw} {Wn : List Nat} {S : Int → Bool} {nB : Nat} (hL : FdL n code s.data.toList p Q w0 hl wr B b0 v W Wn S nB) (hn2 : n ≤ 2000) : ∃ (A1 : Option Addr) (L c1 : Nat), L ≤ 2000 ∧ hl < wr.heap.size ∧ wr.cell? ⟨hl, 0, none⟩ = some (.slice A1 L c1) := by
 obtain ⟨A1, c1, hv⟩ := own_form hL.ls.own
 have h1 := hL.ls.wl
 have h2 := hL.nb
 have h3 := hL.ls.c0
 rw [hv] at h3
 exact ⟨A1, W.length, c1, by omega, hL.ls.hz, h3⟩
theorem FdA.ways (h : FdA n code s.data.toList p w0 hl wr) (hn2 : n ≤ 2000) : ∃ (A1 : Option Addr) (L c1 : Nat), L ≤ 2000 ∧ hl < wr.heap.size ∧ wr.cell? ⟨hl, 0, none⟩ = some (.slice A1 L c1) := by
 obtain ⟨B, b0, v, W, Wn, S, nB, hL, -⟩ := h
 exact hL.len hn2
theorem FdY.ways {fv : Value} (h : FdY n code s.data.toList p w0 hl wr fv) (hn2 : n ≤ 2000) : ∃ (A1 : Option Addr) (L c1 : Nat), L ≤ 2000 ∧ hl < wr.heap.size ∧ wr.cell? ⟨hl, 0, none⟩ = some (.slice A1 L c1) := by
 obtain ⟨-, -, B, b0, v, W, Wn, S, nB, hL⟩ := h
 exact hL.len hn2
/-- what a call of step leaves. -/
def RetSc (n : Nat) (code : List In) (t : List UInt8) (p : Nat) (w0 : World) (ob : Bool) (fv : Value) (e : Ending) (w' : World) : Prop :=
 ∃ pv met hl', e = .returned (.tuple #[.pointer (some ⟨hl', 0, none⟩), pv, .bool met]) ∧ FdS n code t (p + 1) w0 hl' w' (ob || met) (bif met then pv else fv)
theorem FdA.step_call (K : FdK G n cA A code s hw w0 nv) (h : FdA n code s.data.toList p w0 hl wr) (hp : p ≤ s.size) :
  Calls Tryz.prog 56 #[.pointer (some ⟨hw, 0, none⟩), .pointer (some ⟨hl, 0, none⟩), .int .i64 p] wr (RetSc n code s.data.toList p w0 false (.slice none 0 0)) := by
 obtain ⟨B, b0, v, W, Wn, S, nB, hL, hN, hB, h0⟩ := h
 obtain ⟨c0, c1, c2⟩ := K.cells hL.gr
 have hpt : p ≤ s.data.toList.length := by simpa using hp
 have hnb := hL.nb
 have hQ0 : ∀ k ∈ Wn, SelB code s.data.toList p k → RcP code s.data.toList (p + 1) ((k : Int) + 1) := fun k hk hs => RcP.byte (hL.law.sS k (hL.law.sW k hk).1).1 hs
 have H := step_any b0 hw hl B nB n cA G A code s p (RcP code s.data.toList (p + 1)) wr v W Wn S K.hn K.hn2 K.hps K.hs hp c0 c1 c2 (K.hr.gr hL.gr) hL.ls hL.wn hL.law.ops (by have := K.hn2; omega) hQ0 RcP.closed
 refine H.mono ?_
 rintro e w' ⟨pv, met, v', W', Wn', S', nB', j, e1, I, h1, h2⟩
 refine ⟨pv, met, _, e1, ?_⟩
 cases met with
 | false => exact .inl ⟨rfl, rfl, FdN.next (pv := pv) hpt hL.law hN h0 hB hL.gr I (h2 rfl)⟩
 | true => exact .inr ⟨rfl, FdY.met (isC_met hL.law (h1 rfl).1) hL.gr I (h1 rfl).2⟩
theorem FdY.step_call {fv : Value} (K : FdK G n cA A code s hw w0 nv) (h : FdY n code s.data.toList p w0 hl wr fv) (hp : p ≤ s.size) :
  Calls Tryz.prog 56 #[.pointer (some ⟨hw, 0, none⟩), .pointer (some ⟨hl, 0, none⟩), .int .i64 p] wr (RetSc n code s.data.toList p w0 true fv) := by
 obtain ⟨hc, ⟨a, m, hP⟩, B, b0, v, W, Wn, S, nB, hL⟩ := h
 obtain ⟨c0, c1, c2⟩ := K.cells hL.gr
 have hnb := hL.nb
 have H := step_any b0 hw hl B nB n cA G A code s p (fun _ => True) wr v W Wn S K.hn K.hn2 K.hps K.hs hp c0 c1 c2 (K.hr.gr hL.gr) hL.ls hL.wn hL.law.ops (by have := K.hn2; omega) (fun _ _ _ => trivial) (fun _ _ _ _ => trivial)
 refine H.mono ?_
 rintro e w' ⟨pv, met, v', W', Wn', S', nB', j, e1, I, h1, h2⟩
 refine ⟨pv, met, _, e1, ?_⟩
 cases met with
 | false => exact .inr ⟨rfl, FdY.met (pv := fv) hc hL.gr I ⟨a, m, hP.gr I.gr⟩⟩
 | true => exact .inr ⟨rfl, FdY.met hc hL.gr I (h1 rfl).2⟩
theorem FdN.gr (h : FdN n code s.data.toList p w0 hl wr) : Gr w0 wr := by
 obtain ⟨B, b0, v, W, Wn, S, nB, hL, -⟩ := h
 exact hL.gr
theorem FdY.gr {fv : Value} (h : FdY n code s.data.toList p w0 hl wr fv) : Gr w0 wr := by
 obtain ⟨-, -, B, b0, v, W, Wn, S, nB, hL⟩ := h
 exact hL.gr
theorem Plc.clone {w W : World} {sv : Value} {a m : Nat} (h : Plc w sv a m) (g : Gr w W) : Calls Tryz.prog 57 #[sv] W fun e w' => ∃ v', e = .returned v' ∧ Gr W w' := by
 obtain ⟨zs, hzl, hzc⟩ := h.ints
 obtain ⟨c, rfl, h0, hm, ha, -⟩ := h
 refine (Tryz.slices_Clone_int a 0 m c zs W (by omega) (by omega) (fun j hj => (Below.cell g (p := ⟨a, 0 + j, none⟩) ha).trans (hzc j hj))).mono ?_
 rintro e w' ⟨v', e1, -, -, g'⟩
 exact ⟨v', e1, g'⟩
theorem clone_nil (W : World) : Calls Tryz.prog 57 #[.slice none 0 0] W fun e w' => ∃ v', e = .returned v' ∧ Gr W w' := by
 refine (Tryz.slices_Clone_int_nil 0 0 W).mono ?_
 rintro e w' ⟨e1, rfl⟩
 exact ⟨_, e1, Gr.refl _⟩
end
end Go.Proofs.YtjapddfnpmlifaaGreatDoor
