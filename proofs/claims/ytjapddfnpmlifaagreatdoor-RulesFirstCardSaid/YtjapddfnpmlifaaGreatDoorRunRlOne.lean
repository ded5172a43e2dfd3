/- Where an expression of one byte is, plain. No program in sight. · Small functions of chapter 25's law. · append at one operation of a drawn region, the source a slice that reads as a list, nil let in. · Lines of a text, digits of a number: plain Lean for chapter 25's Parse. No program in sight. · The rows of rules in memory: what Parse lays. -/
import Derived.Test.YtjapddfnpmlifaaGreatDoorRunRxMem
import Derived.Test.YtjapddfnpmlifaaGreatDoorRxComp
import Derived.Test.YtjapddfnpmlifaaGreatDoorRunRuRetR
import Derived.Test.YtjapddfnpmlifaaGreatDoorRunRuSize
import Derived.Test.YtjapddfnpmlifaaGreatDoorRunRuSpec
import Derived.Lib.Strings
import Derived.Lib.Bytealg
import Derived.Test.YtjapddfnpmlifaaGreatDoorRunRuChk
namespace Go.Proofs.YtjapddfnpmlifaaGreatDoor
set_option linter.unusedVariables false
set_option linter.unusedSimpArgs false
open Go.RowKit

/-- what an expression of one set is made to. -/
def oneC (ps : List UInt8) : List In := [⟨4, 0, 0, []⟩, ⟨1, 0, 0, ps⟩, ⟨4, 1, 0, []⟩, ⟨7, 0, 0, []⟩]
theorem one_at0 (ps t : List UInt8) (p : Nat) : succS (oneC ps) t 0 p = [((1 : Int), p)] := rfl
theorem one_at1 (ps t : List UInt8) (p : Nat) : succS (oneC ps) t 1 p = if h : p < t.length then (if hasS ps (t[p].toNat : Int) then [((2 : Int), p + 1)] else []) else [] := rfl
theorem one_at2 (ps t : List UInt8) (p : Nat) : succS (oneC ps) t 2 p = [((3 : Int), p)] := rfl
theorem one_at3 (ps t : List UInt8) (p : Nat) : succS (oneC ps) t 3 p = [] := rfl
theorem one_reach {ps t : List UInt8} {pc : Int} {p : Nat} (h : Rc (oneC ps) t (fun p => p ≤ t.length) pc p) : pc = 0 ∨ pc = 1 ∨ ((pc = 2 ∨ pc = 3) ∧ ∃ (q : Nat) (hq : q < t.length), hasS ps (t[q].toNat : Int) = true) := by
 induction h with
 | start p _ _ => exact .inl rfl
 | step pc p q _ hq ih =>
  rcases ih with rfl | rfl | ⟨rfl | rfl, hx⟩
  ·
   rw [one_at0, List.mem_singleton] at hq
   subst hq
   exact .inr (.inl rfl)
  ·
   rw [one_at1] at hq
   split at hq
   ·
    rename_i hlt
    split at hq
    ·
     rename_i hh
     rw [List.mem_singleton] at hq
     subst hq
     exact .inr (.inr ⟨.inl rfl, p, hlt, hh⟩)
    ·
     cases hq
   ·
    cases hq
  ·
   rw [one_at2, List.mem_singleton] at hq
   subst hq
   exact .inr (.inr ⟨.inr rfl, hx⟩)
  ·
   rw [one_at3] at hq
   cases hq
theorem one_is (ps t : List UInt8) : isC (oneC ps) t = t.any fun c => hasS ps (c.toNat : Int) := by
 classical
 unfold isC
 have key : AccS (oneC ps) t (fun p => p ≤ t.length) ↔ (t.any fun c => hasS ps (c.toNat : Int)) = true := by
  rw [List.any_eq_true]
  constructor
  ·
   rintro ⟨k, p, hk, h, h7⟩
   rcases one_reach h with h | h | ⟨_, q, hq, hx⟩
   ·
    have : k = 0 := by omega
    subst this
    have h7' : (4 : Int) = 7 := h7
    omega
   ·
    have : k = 1 := by omega
    subst this
    have h7' : (1 : Int) = 7 := h7
    omega
   ·
    exact ⟨t[q], List.getElem_mem hq, hx⟩
  ·
   rintro ⟨c, hc, hx⟩
   obtain ⟨q, hq, rfl⟩ := List.mem_iff_getElem.1 hc
   have h0 : Rc (oneC ps) t (fun p => p ≤ t.length) 0 q := .start q (by omega) (by omega)
   have h1 : Rc (oneC ps) t (fun p => p ≤ t.length) 1 q := .step 0 q (1, q) h0 (by rw [one_at0]; exact List.mem_singleton.2 rfl)
   have h2 : Rc (oneC ps) t (fun p => p ≤ t.length) 2 (q + 1) := .step 1 q (2, q + 1) h1 (by rw [one_at1, dif_pos hq, if_pos hx]; exact List.mem_singleton.2 rfl)
   have h3 : Rc (oneC ps) t (fun p => p ≤ t.length) 3 (q + 1) := .step 2 (q + 1) (3, q + 1) h2 (by rw [one_at2]; exact List.mem_singleton.2 rfl)
   exact ⟨3, q + 1, by show 3 < 4; omega, h3, rfl⟩
 by_cases h : (t.any fun c => hasS ps (c.toNat : Int)) = true
 ·
  rw [h, decide_eq_true_iff]; exact key.2 h
 ·
  rw [Bool.not_eq_true] at h
  rw [h, decide_eq_false_iff_not]; exact fun h2 => by rw [key.1 h2] at h; cases h
theorem code_a : codeY [97] = oneC [97, 97] := by kernel_rfl
theorem code_dot : codeY [46] = oneC [0, 9, 11, 255] := by kernel_rfl
theorem err_a : errX [97] = 0 := by kernel_rfl
theorem err_dot : errX [46] = 0 := by kernel_rfl
theorem has_a_all : ((List.range 256).all fun c => hasS [97, 97] (c : Int) == (c == 97)) = true := by kernel_rfl
theorem has_dot_all : ((List.range 256).all fun c => hasS [0, 9, 11, 255] (c : Int) == !(c == 10)) = true := by kernel_rfl
theorem has_a (c : UInt8) : hasS [97, 97] (c.toNat : Int) = (c.toNat == 97) := by
 have := List.all_eq_true.1 has_a_all c.toNat (List.mem_range.2 c.toNat_lt)
 simpa using this
theorem has_dot (c : UInt8) : hasS [0, 9, 11, 255] (c.toNat : Int) = !(c.toNat == 10) := by
 have := List.all_eq_true.1 has_dot_all c.toNat (List.mem_range.2 c.toNat_lt)
 simpa using this
def anyA (t : List UInt8) : Bool := t.any fun c => c.toNat == 97
def anyDot (t : List UInt8) : Bool := t.any fun c => !(c.toNat == 10)
theorem is_a (t : List UInt8) : isC (codeY [97]) t = anyA t := by
 rw [code_a, one_is]
 unfold anyA
 congr 1
 funext c
 exact has_a c
theorem is_dot (t : List UInt8) : isC (codeY [46]) t = anyDot t := by
 rw [code_dot, one_is]
 unfold anyDot
 congr 1
 funext c
 exact has_dot c
end Go.Proofs.YtjapddfnpmlifaaGreatDoor
namespace Go.Proofs.YtjapddfnpmlifaaGreatDoor
set_option linter.unusedVariables false
set_option linter.unusedSimpArgs false
open Go.RowKit

set_option maxRecDepth 100000 in
set_option maxHeartbeats 6400000 in
theorem headers_same (A B : Option Addr) (c d : Nat) (l : List (Nat × Nat)) (hl : (l.length : Int) ≤ 1000) (w : World) (ha : Ra w A l) (hb : Ra w B l) : Calls Tryz.prog 8 #[.agg #[.int .i64 1, .int .i64 500000, .slice A l.length c], .agg #[.int .i64 1, .int .i64 500000, .slice B l.length d]] w fun e w' => e = .returned (.bool true) ∧ Gr w w' := by
 obtain ⟨V, hV⟩ : ∃ V, V = (w.alloc (.cells #[.int .i64 1, .int .i64 500000, .slice A l.length c] 29)).alloc (.cells #[.int .i64 1, .int .i64 500000, .slice B l.length d] 29) := ⟨_, rfl⟩
 have gV : Gr w V := by rw [hV]; exact Gr.alloc (Gr.alloc (Gr.refl w) _) _
 have hz : w.heap.size + 2 = V.heap.size := by rw [hV]; simp
 have v0 : V.cell? ⟨w.heap.size, 0, none⟩ = some (.int .i64 1) := by rw [hV]; go_simp
 have v1 : V.cell? ⟨w.heap.size, 1, none⟩ = some (.int .i64 500000) := by rw [hV]; go_simp
 have v2 : V.cell? ⟨w.heap.size, 2, none⟩ = some (.slice A l.length c) := by rw [hV]; go_simp
 have u0 : V.cell? ⟨w.heap.size + 1, 0, none⟩ = some (.int .i64 1) := by rw [hV]; go_simp
 have u1 : V.cell? ⟨w.heap.size + 1, 1, none⟩ = some (.int .i64 500000) := by rw [hV]; go_simp
 have u2 : V.cell? ⟨w.heap.size + 1, 2, none⟩ = some (.slice B l.length d) := by rw [hV]; go_simp
 have HA := Lib.hid (ha.gr gV)
 have HB := Lib.hid (hb.gr gV)
 have HV := Lib.hid hV
 have GV := Lib.hid gV
 clear ha hb hV gV
 go_enter Tryz.func8, Tryz.ntmps8
 go_upto_region 1 with (fail)
 rw [← HV.out]
 clear HV
 go_wp2
 go_loopw [5] (fun i wr => ∃ k : Nat, k ≤ l.length ∧ i = .int .i64 k ∧ Gr V wr) (fun i _ => l.length - (intOf i).toNat)
 case atStart => exact ⟨0, Nat.zero_le _, rfl, Gr.refl _⟩
 case round =>
  obtain ⟨k, hk, rfl, hgr⟩ := hrel
  have G := Lib.hid hgr
  have v2 := (Below.cell hgr (p := ⟨w.heap.size, 2, none⟩) (by show w.heap.size < _; omega)).trans v2
  have u2 := (Below.cell hgr (p := ⟨w.heap.size + 1, 2, none⟩) (by show w.heap.size + 1 < _; omega)).trans u2
  have hzr : w.heap.size + 2 ≤ wr.heap.size := by have := hgr.size; omega
  by_cases hlt : k < l.length
  ·
   have hki : (k : Int) < (l.length : Int) := by omega
   obtain ⟨b, rfl, hb, hc⟩ := (HA.out.gr hgr) (by omega)
   obtain ⟨b', rfl, hb', hc'⟩ := (HB.out.gr hgr) (by omega)
   obtain ⟨d0, d1⟩ := hc k hlt
   obtain ⟨e0, e1⟩ := hc' k hlt
   generalize l[k].1 = x1 at *
   generalize l[k].2 = x2 at *
   clear hc hc' hgr v0 v1 u0 u1
   go_upto_region 6 with (fail)
   refine region_Q (by kernel_rfl) (by kernel_rfl) ?_
   refine q_val (v := ?_) (by rfl) (fun W hW => ?_) ?_; rotate_left; (focus go_simp; rfl); simp only [Pu]
   refine q_val (v := ?qv2) (by rfl) (fun W hW => ?qh2) ?qr2
   case qh2 => have g := (Below.cell hW (p := ⟨w.heap.size, 2, none⟩) (by show w.heap.size < _; omega)).trans v2; go_simp; rfl
   simp only [Pu]
   iterate 2 (refine q_val (v := ?_) (by rfl) (fun W hW => ?_) ?_; rotate_left; (focus go_simp; rfl); simp only [Pu])
   refine q_val (v := ?qv5) (by rfl) (fun W hW => ?qh5) ?qr5
   case qh5 => have g := (Below.cell hW (p := ⟨b, k * 2, none⟩) hb).trans d0; have g2 := (Below.cell hW (p := ⟨b, k * 2 + 1, none⟩) hb).trans d1; go_simp; rfl
   simp only [Pu]
   refine q_val (v := ?_) (by rfl) (fun W hW => ?_) ?_; rotate_left; (focus go_simp; rfl); simp only [Pu]
   refine q_val (v := ?qv7) (by rfl) (fun W hW => ?qh7) ?qr7
   case qh7 => have g := (Below.cell hW (p := ⟨w.heap.size + 1, 2, none⟩) (by show w.heap.size + 1 < _; omega)).trans u2; go_simp; rfl
   simp only [Pu]
   iterate 2 (refine q_val (v := ?_) (by rfl) (fun W hW => ?_) ?_; rotate_left; (focus go_simp; rfl); simp only [Pu])
   refine q_val (v := ?qv10) (by rfl) (fun W hW => ?qh10) ?qr10
   case qh10 => have g := (Below.cell hW (p := ⟨b', k * 2, none⟩) hb').trans e0; have g2 := (Below.cell hW (p := ⟨b', k * 2 + 1, none⟩) hb').trans e1; go_simp; rfl
   simp only [Pu]
   refine q_val (v := ?_) (by rfl) (fun W hW => ?_) ?_; rotate_left; (focus go_simp; rfl); simp only [Pu]
   refine wpQuiet_nil ?_
   intro w8 hw8
   have G8 := Lib.hid hw8
   clear hw8 d0 d1 e0 e1
   go_wp2
   go_roundw
   case rel => exact ⟨k + 1, by omega, by go_num, G.out.trans G8.out⟩
   case measure => simp [intOf]; omega
  ·
   have hkk : k = l.length := by omega
   subst hkk
   clear hgr v0 v1 u0 u1
   go_wp2
   go_ret
   exact ⟨rfl, GV.out.trans G.out⟩
theorem Ra.one (w : World) (x : Nat × Nat) : Ra (w.alloc (.cells #[.int .i64 (x.1 : Nat), .int .i64 (x.2 : Nat)] 34)) (some ⟨w.heap.size, 0, none⟩) [x] := fun _ => by
 refine ⟨w.heap.size, rfl, by simp, fun k hk => ?_⟩
 match k, hk with
 | 0, _ => constructor <;> go_simp
theorem Ra.lit {w : World} {B : Nat} (hB : B = w.heap.size) (x y : Nat) (u v : Int) (hu : u = x) (hv : v = y) : Ra (w.alloc (.cells #[.int .i64 u, .int .i64 v] 34)) (some ⟨B, 0, none⟩) [(x, y)] := by
 subst hB hu hv
 exact Ra.one w (x, y)
theorem anyA_take (s : ByteArray) (k : Nat) (h : k < s.size) : anyA (s.data.toList.take (k + 1)) = (anyA (s.data.toList.take k) || ((s[k].toNat : Int) == 97)) := by
 have hl : k < s.data.toList.length := by simpa using h
 have e : s.data.toList[k] = s[k] := by simp; rfl
 unfold anyA
 rw [List.take_succ_eq_append_getElem hl, List.any_append]
 simp only [List.any_cons, List.any_nil, Bool.or_false, e]
 congr 1
 rw [Bool.eq_iff_iff, beq_iff_eq, beq_iff_eq]; omega
theorem anyDot_take (s : ByteArray) (k : Nat) (h : k < s.size) : anyDot (s.data.toList.take (k + 1)) = (anyDot (s.data.toList.take k) || !((s[k].toNat : Int) == 10)) := by
 have hl : k < s.data.toList.length := by simpa using h
 have e : s.data.toList[k] = s[k] := by simp; rfl
 unfold anyDot
 rw [List.take_succ_eq_append_getElem hl, List.any_append]
 simp only [List.any_cons, List.any_nil, Bool.or_false, e]
 congr 2
 rw [Bool.eq_iff_iff, beq_iff_eq, beq_iff_eq]; omega
theorem anyDot_of {l : List UInt8} {k : Nat} (h : anyDot (l.take k) = true) : anyDot l = true := by
 unfold anyDot at *
 rw [List.any_eq_true] at *
 obtain ⟨x, hx, he⟩ := h
 exact ⟨x, List.mem_of_mem_take hx, he⟩
set_option maxRecDepth 100000 in
set_option maxHeartbeats 6400000 in
theorem dot_any (s : ByteArray) (hs : (s.size : Int) ≤ 4096) (w : World) : Calls Tryz.prog 10 #[.string s] w fun e w' => e = .returned (.bool (anyDot s.data.toList)) ∧ w = w' := by
 go_enter Tryz.func10, Tryz.ntmps10
 go_wp2
 go_loop [3] (fun i => ∃ k : Nat, k ≤ s.size ∧ i = .int .i64 k ∧ anyDot (s.data.toList.take k) = false) (fun i => s.size - (intOf i).toNat)
 case atStart => exact ⟨0, Nat.zero_le _, rfl, rfl⟩
 case round =>
  obtain ⟨k, hk, rfl, ha⟩ := hrel
  have Ha := Lib.hid ha
  clear ha
  by_cases hlt : k < s.size
  ·
   have hki : (k : Int) < (s.size : Int) := by omega
   have Ht := anyDot_take s k hlt
   rw [Ha.out, Bool.false_or] at Ht
   cases hb : ((s[k].toNat : Int) == 10)
   ·
    rw [hb] at Ht
    have HT := Lib.hid (anyDot_of Ht)
    clear Ht
    go_wp2
    go_ret
    exact ⟨by rw [HT.out]; rfl, rfl⟩
   ·
    rw [hb] at Ht
    have HT := Lib.hid Ht
    clear Ht
    go_wp2
    go_round
    case rel => exact ⟨k + 1, by omega, by go_num, HT.out⟩
    case measure => simp [intOf]; omega
  ·
   have hge : ¬ (k : Int) < (s.size : Int) := by omega
   have HT : Hid (anyDot s.data.toList = false) := Lib.hid (by
    have := Ha.out
    rwa [List.take_of_length_le (by simp; omega)] at this)
   go_wp2
   go_ret
   exact ⟨by rw [HT.out]; rfl, rfl⟩
end Go.Proofs.YtjapddfnpmlifaaGreatDoor
namespace Go.Proofs.YtjapddfnpmlifaaGreatDoor
set_option linter.unusedVariables false
set_option linter.unusedSimpArgs false
open Go.RowKit

section
variable {P : Program} {w : World}
theorem Rd.grown {w w' : World} {size n : Nat} {A : Option Addr} {xs : List Value} {row : Option Nat} (h : Rd w size A n xs) (hg : w.grownBy w' row) (hne : ∀ ad, A = some ad → some ad.block ≠ row) : Rd w' size A n xs :=
 ⟨h.1, fun hn => by
  obtain ⟨ad, e, hb, hc⟩ := h.2 hn
  exact ⟨ad, e, Nat.lt_of_lt_of_le hb hg.size, fun j u hu => hg.cell (hc j u hu) (by rw [add_blk]; exact hne ad e)⟩⟩
/-- append at one operation of a drawn region, the source a slice that reads as a list, nil let in. -/
theorem wp_append_rd0 {o : Oper} {a : Act} {Q : Exit → Act → World → Prop} {K : Act → World → Prop} (s x : Operand) (t : TypeId)
  (ho : o.op = .call { callee := .builtin .append, args := #[s, x], argTypes := #[t, t] })
  (base : Nat) (e : TypeId) (i : TypeInfo) (z : Value) (size bytes : Nat) (ht : P.underlying t = some (.slice e)) (hi : P.info? e = some i) (hz : i.zero = some z)
  (hsize : i.size = size) (hby : i.bytes = bytes) (hzs : z.cells.size = size) (hsz : 0 < size)
  (v : Value) (n : Nat) (xs : List Value) (hs : a.eval s = v) (hown : w.ownsRow base e size v n xs)
  (A : Option Addr) (m c : Nat) (news : List Value) (hx : a.eval x = .slice A m c) (hr : Rd w size A m news) (h1 : ∀ u ∈ news, u.oneCell' = true)
  (h63 : n + m ≤ maxLen) (hbytes : (n + m) * bytes ≤ 140737488355328) (hbase : base ≤ w.heap.size)
  (h : ∀ v' w', w'.ownsRow base e size v' (n + m) (xs ++ news) → w.grownBy w' v.ownBlock → (v'.ownBlock = v.ownBlock ∨ v'.ownBlock = some w.heap.size) → K (a.put o.dst v') w') : Oper.wp P o a w K Q := by
 have hrun : ∃ v' w', (Builtin.append_ #[t, t] o.type #[v, .slice A m c]).run P w = .ok v' w' ∧ w'.ownsRow base e size v' (n + m) (xs ++ news) ∧ w.grownBy w' v.ownBlock ∧ (v'.ownBlock = v.ownBlock ∨ v'.ownBlock = some w.heap.size) := by
  rcases Nat.eq_zero_or_pos m with hm | hm
  ·
   subst hm
   have hn : news = [] := List.eq_nil_of_length_eq_zero (by simpa using hr.1)
   subst hn
   cases A with
   | none => exact ⟨v, w, append_nil_run base t o.type e i size ht hi hown c, by simpa using hown, World.grownBy.refl w _, .inl rfl⟩
   | some ad =>
    obtain ⟨v', w', k1, k2, k3, _, k5⟩ := run_append_own_at (P := P) w base t o.type e i z size bytes ht hi hz hsize hby hzs hsz v n xs hown ad 0 c [] (by simp) (by intro j u hu; simp at hu) (by intro u hu; simp at hu) h63 hbytes hbase
    exact ⟨v', w', k1, k2, k3, k5⟩
  ·
   obtain ⟨ad, rfl, _, hc⟩ := hr.2 hm
   obtain ⟨v', w', k1, k2, k3, _, k5⟩ := run_append_own_at (P := P) w base t o.type e i z size bytes ht hi hz hsize hby hzs hsz v n xs hown ad m c news hr.1 hc h1 h63 hbytes hbase
   exact ⟨v', w', k1, k2, k3, k5⟩
 obtain ⟨v', w', hr1, h2, h3, h4⟩ := hrun
 unfold Oper.wp execOp
 simp only [ho, resolve, invoke, builtin, Sem.run_bind, Sem.run_pure, Result.andThen_ok, List.map_toArray, List.map_cons, List.map_nil, hs, hx, hr1]
 exact h v' w' h2 h3 h4
end
end Go.Proofs.YtjapddfnpmlifaaGreatDoor
namespace Go.Proofs.YtjapddfnpmlifaaGreatDoor
set_option linter.unusedVariables false
set_option linter.unusedSimpArgs false
open Go.RowKit

/-- the lines of a text, each with its end. -/
def linesS : List UInt8 → List (List UInt8)
 | [] => []
 | c :: r => bif c == 10 then [c] :: linesS r else match linesS r with
  | [] => [[c]]
  | p :: m => (c :: p) :: m
theorem lines_end : ∀ (x r : List UInt8), (10 : UInt8) ∉ x → linesS (x ++ 10 :: r) = (x ++ [10]) :: linesS r
 | [], r, _ => rfl
 | c :: x, r, h => by
  have hc : (c == 10) = false := beq_eq_false_iff_ne.2 (fun e => h (by rw [e]; exact List.mem_cons_self))
  have := lines_end x r (fun hm => h (List.mem_cons_of_mem _ hm))
  rw [List.cons_append, linesS, hc, cond_false, this]
  rfl
theorem lines_last : ∀ (c : UInt8) (x : List UInt8), (10 : UInt8) ∉ c :: x → linesS (c :: x) = [c :: x]
 | c, [], h => by
  have hc : (c == 10) = false := beq_eq_false_iff_ne.2 (fun e => h (by rw [e]; exact List.mem_cons_self))
  rw [linesS, hc]; rfl
 | c, d :: x, h => by
  have hc : (c == 10) = false := beq_eq_false_iff_ne.2 (fun e => h (by rw [e]; exact List.mem_cons_self))
  rw [linesS, hc, cond_false, lines_last d x (fun hm => h (List.mem_cons_of_mem _ hm))]
theorem lines_len : ∀ l : List UInt8, (linesS l).length ≤ l.length
 | [] => Nat.le_refl _
 | c :: r => by
  have := lines_len r
  unfold linesS
  cases (c == 10)
  ·
   rw [cond_false]
   cases h : linesS r with
   | nil => simp
   | cons p m => rw [h] at this; simp at this ⊢; omega
  ·
   rw [cond_true]; simp; exact this
/-- a line without its end. -/
def trimS (l : List UInt8) : List UInt8 := Lib.trimSuffix l [10]
theorem trim_end (x : List UInt8) : trimS (x ++ [10]) = x := by
 unfold trimS Lib.trimSuffix Lib.hasSuffix
 simp
/-- is it no rule, but a remark, or nothing? -/
def skipS : List UInt8 → Bool
 | [] => true
 | c :: _ => c == 35
theorem idx_at : ∀ (x r : List UInt8), (10 : UInt8) ∉ x → Lib.indexByte (x ++ 10 :: r) 10 = x.length
 | [], r, _ => rfl
 | c :: x, r, h => by
  have hc : (c == 10) = false := beq_eq_false_iff_ne.2 (fun e => h (by rw [e]; exact List.mem_cons_self))
  have := idx_at x r (fun hm => h (List.mem_cons_of_mem _ hm))
  rw [List.cons_append]
  unfold Lib.indexByte
  rw [hc, this]
  have h2 : ((x.length : Int) == -1) = false := beq_eq_false_iff_ne.2 (by omega)
  rw [h2]
  simp
theorem idx_none : ∀ x : List UInt8, (10 : UInt8) ∉ x → Lib.indexByte x 10 = -1
 | [], _ => rfl
 | c :: x, h => by
  have hc : (c == 10) = false := beq_eq_false_iff_ne.2 (fun e => h (by rw [e]; exact List.mem_cons_self))
  have := idx_none x (fun hm => h (List.mem_cons_of_mem _ hm))
  unfold Lib.indexByte
  rw [hc, this]
  rfl
theorem split_ten : ∀ l : List UInt8, (10 : UInt8) ∈ l → ∃ x r, l = x ++ 10 :: r ∧ (10 : UInt8) ∉ x
 | [], h => by cases h
 | c :: l, h => by
  by_cases hc : c = 10
  ·
   exact ⟨[], l, by rw [hc]; rfl, by simp⟩
  ·
   obtain ⟨x, r, e, hn⟩ := split_ten l (by rcases List.mem_cons.1 h with h | h; exact absurd h.symm hc; exact h)
   refine ⟨c :: x, r, by rw [e]; rfl, fun hm => ?_⟩
   rcases List.mem_cons.1 hm with h | h
   ·
    exact hc h.symm
   ·
    exact hn h
/-- a number's digits. -/
def digF : Nat → Nat → List UInt8
 | 0, _ => []
 | k + 1, n => bif Nat.blt n 10 then [(48 + n).toUInt8] else digF k (n / 10) ++ [(48 + n % 10).toUInt8]
def digsN (n : Nat) : List UInt8 := digF 4 n
theorem digF_small {k n : Nat} (h : n < 10) : digF (k + 1) n = [(48 + n).toUInt8] := by
 unfold digF
 rw [show Nat.blt n 10 = true from by rw [Nat.blt_eq]; exact h]; rfl
theorem digF_more {k n : Nat} (h : 10 ≤ n) : digF (k + 1) n = digF k (n / 10) ++ [(48 + n % 10).toUInt8] := by
 rw [digF, show Nat.blt n 10 = false from by rw [Bool.eq_false_iff, ne_eq, Nat.blt_eq]; omega]; rfl
theorem part_none (c : UInt8) : ∀ x : List UInt8, c ∉ x → partS c x = [x]
 | [], _ => rfl
 | d :: x, h => by
  have hc : (d == c) = false := beq_eq_false_iff_ne.2 (fun e => h (by rw [e]; exact List.mem_cons_self))
  rw [partS, hc, cond_false, part_none c x (fun hm => h (List.mem_cons_of_mem _ hm))]
theorem part_at (c : UInt8) : ∀ x r : List UInt8, c ∉ x → partS c (x ++ c :: r) = x :: partS c r
 | [], r, _ => by rw [List.nil_append, partS, beq_self_eq_true]; rfl
 | d :: x, r, h => by
  have hc : (d == c) = false := beq_eq_false_iff_ne.2 (fun e => h (by rw [e]; exact List.mem_cons_self))
  rw [List.cons_append, partS, hc, cond_false, part_at c x r (fun hm => h (List.mem_cons_of_mem _ hm))]
theorem cut_at (c : UInt8) : ∀ x r : List UInt8, c ∉ x → cutS c (x ++ c :: r) = some (x, r)
 | [], r, _ => by rw [List.nil_append, cutS, beq_self_eq_true]; rfl
 | d :: x, r, h => by
  have hc : (d == c) = false := beq_eq_false_iff_ne.2 (fun e => h (by rw [e]; exact List.mem_cons_self))
  rw [List.cons_append, cutS, hc, cond_false, cut_at c x r (fun hm => h (List.mem_cons_of_mem _ hm))]
  rfl
/-- one archive of few points is one. -/
theorem may_one {a b : Nat} (ha : 1 ≤ a) (ha' : a ≤ 1000) (hb : 1 ≤ b) (hb' : b ≤ 1000) : mayS [(a, b)] = true := by
 have hab : a * b ≤ 1000 * 1000 := Nat.mul_le_mul ha' hb'
 have h1 : oneOk (a, b) = true := by simp only [oneOk, Bool.and_eq_true, Nat.ble_eq]; omega
 have h2 : sizeS [(a, b)] = 16 + (12 + 12 * b + 0) := rfl
 have h3 : lastS [(a, b)] = (a, b) := rfl
 unfold mayS
 rw [h2, h3]
 simp only [h1, rowOk, Bool.and_eq_true, Nat.ble_eq, List.length_cons, List.length_nil, maxTime, and_true, true_and]
 refine ⟨⟨by omega, by omega⟩, ?_⟩
 show a * b ≤ 4294967295
 omega
theorem ret_one {x y : List UInt8} {a b : Nat} (hx : unsS x = some (a, false)) (hy : unsS y = some (b, false)) (h1 : (44 : UInt8) ∉ x) (h2 : (44 : UInt8) ∉ y) (h3 : (58 : UInt8) ∉ x) (ha : 1 ≤ a) (ha' : a ≤ 1000) (hb : 1 ≤ b) (hb' : b ≤ 1000) :
  retS (x ++ 58 :: y) = some [(a, b)] := by
 have h4 : (44 : UInt8) ∉ x ++ 58 :: y := by
  intro h
  rcases List.mem_append.1 h with h | h
  ·
   exact h1 h
  ·
   rcases List.mem_cons.1 h with h | h
   ·
    cases h
   ·
    exact h2 h
 have h5 : archS (x ++ 58 :: y) = some (a, b) := by
  unfold archS
  rw [cut_at 58 x y h3]
  simp only [hx, hy]
  rw [show (a == 0) = false from beq_eq_false_iff_ne.2 (by omega)]
  rfl
 unfold retS
 rw [part_none 44 _ h4]
 unfold archsS
 rw [h5]
 simp only [archsS, Option.map_some, may_one ha ha' hb hb', cond_true]
/-- digits of the numbers in sight. -/
def digOk (n : Nat) : Bool := (unsS (digsN n) == some (n, false)) && ((digsN n).all fun c => isDg c) && !(digsN n).isEmpty && Nat.ble (digsN n).length 4
theorem digs_all : ((List.range 1001).all digOk) = true := by kernel_rfl
theorem digs_ok {n : Nat} (h : n ≤ 1000) : unsS (digsN n) = some (n, false) ∧ (∀ c ∈ digsN n, 48 ≤ c.toNat ∧ c.toNat ≤ 57) ∧ digsN n ≠ [] ∧ (digsN n).length ≤ 4 := by
 have := List.all_eq_true.1 digs_all n (List.mem_range.2 (by omega))
 simp only [digOk, Bool.and_eq_true, beq_iff_eq, List.all_eq_true, Nat.ble_eq, Bool.not_eq_true', List.isEmpty_eq_false_iff] at this
 obtain ⟨⟨⟨h1, h2⟩, h3⟩, h4⟩ := this
 exact ⟨h1, fun c hc => (isDg_iff c).1 (h2 c hc), h3, h4⟩
theorem digs_not {n : Nat} (h : n ≤ 1000) (c : UInt8) (hc : c.toNat < 48 ∨ 57 < c.toNat) : c ∉ digsN n := fun hm => by
 have := (digs_ok h).2.1 c hm; omega
end Go.Proofs.YtjapddfnpmlifaaGreatDoor
namespace Go.Proofs.YtjapddfnpmlifaaGreatDoor
set_option linter.unusedVariables false
set_option linter.unusedSimpArgs false
open Go.RowKit

/-- a schema's row: its words, and where what was made of them lies. -/
structure Sc where
 pat : ByteArray
 ar : List (Nat × Nat)
 A : Option Addr
 c : Nat
 P : Option Addr
 pc : Nat
def Sc.code (s : Sc) : List In := codeY s.pat.data.toList
def Sc.g (s : Sc) : Int := grpX s.pat.data.toList
def sccells (l : List Sc) : List Value := l.flatMap fun s => [.string s.pat, .slice s.A s.ar.length s.c, .int .i64 s.g, .slice s.P s.code.length s.pc]
theorem sccells_cons (s : Sc) (l : List Sc) : sccells (s :: l) = .string s.pat :: .slice s.A s.ar.length s.c :: .int .i64 s.g :: .slice s.P s.code.length s.pc :: sccells l := rfl
theorem sccells_append (l m : List Sc) : sccells (l ++ m) = sccells l ++ sccells m := by simp [sccells]
theorem sccells_length (l : List Sc) : (sccells l).length = l.length * 4 := by
 induction l with
 | nil => rfl
 | cons v l ih => rw [sccells_cons]; simp only [List.length_cons, ih]; omega
theorem sccells_at (l : List Sc) : ∀ (k : Nat) (h : k < l.length), (sccells l)[k * 4]? = some (.string l[k].pat) ∧ (sccells l)[k * 4 + 1]? = some (.slice l[k].A l[k].ar.length l[k].c) ∧ (sccells l)[k * 4 + 2]? = some (.int .i64 l[k].g) ∧ (sccells l)[k * 4 + 3]? = some (.slice l[k].P l[k].code.length l[k].pc) := by
 induction l with
 | nil => intro k h; simp at h
 | cons v l ih =>
  intro k h
  match k with
  | 0 => exact ⟨rfl, rfl, rfl, rfl⟩
  | k + 1 =>
   have := ih k (by simpa using h)
   rw [sccells_cons, show (k + 1) * 4 = k * 4 + 1 + 1 + 1 + 1 by omega]
   exact this
theorem sccells_one (l : List Sc) : ∀ u ∈ sccells l, u.oneCell' = true := by
 intro u hu
 simp only [sccells, List.mem_flatMap] at hu
 obtain ⟨v, _, hv⟩ := hu
 simp at hv
 rcases hv with rfl | rfl | rfl | rfl <;> rfl
/-- what was made of a row's words lies in blocks of its own, none of them 'row'. -/
structure ScOk (w : World) (row : Option Nat) (s : Sc) : Prop where
 ra : Ra w s.A s.ar
 ri : Ri w s.P s.code
 a : 0 < s.ar.length → ∀ ad, s.A = some ad → ad.block < w.heap.size ∧ some ad.block ≠ row
 p : 0 < s.code.length → ∀ ad, s.P = some ad → ad.block < w.heap.size ∧ some ad.block ≠ row
theorem Ra.grown {w w' : World} {A : Option Addr} {l : List (Nat × Nat)} {row : Option Nat} (h : Ra w A l) (hg : w.grownBy w' row) (hne : 0 < l.length → ∀ ad, A = some ad → some ad.block ≠ row) : Ra w' A l := fun h0 => by
 obtain ⟨b, e, hb, hc⟩ := h h0
 have hk := hg.block b hb (by have := hne h0 _ e; exact this)
 exact ⟨b, e, Nat.lt_of_lt_of_le hb hg.size, fun k hk' => ⟨(World.cell?_of_block (a := ⟨b, k * 2, none⟩) hk).trans (hc k hk').1, (World.cell?_of_block (a := ⟨b, k * 2 + 1, none⟩) hk).trans (hc k hk').2⟩⟩
theorem Rd.grownN {w w' : World} {size n : Nat} {A : Option Addr} {xs : List Value} {row : Option Nat} (h : Rd w size A n xs) (hg : w.grownBy w' row) (hne : 0 < n → ∀ ad, A = some ad → some ad.block ≠ row) : Rd w' size A n xs := by
 rcases Nat.eq_zero_or_pos n with h0 | h0
 ·
  exact ⟨h.1, fun h1 => absurd h1 (by omega)⟩
 ·
  exact Rd.grown h hg (hne h0)
theorem ScOk.gr {w w' : World} {row : Option Nat} {s : Sc} (h : ScOk w row s) (g : Gr w w') : ScOk w' row s :=
 ⟨h.ra.gr g, Rd.gr h.ri g, fun h0 ad e => ⟨Nat.lt_of_lt_of_le (h.a h0 ad e).1 g.size, (h.a h0 ad e).2⟩, fun h0 ad e => ⟨Nat.lt_of_lt_of_le (h.p h0 ad e).1 g.size, (h.p h0 ad e).2⟩⟩
theorem ScOk.grown {w w' : World} {row row' : Option Nat} {s : Sc} (h : ScOk w row s) (hg : w.grownBy w' row) (hr : row' = row ∨ row' = some w.heap.size) : ScOk w' row' s := by
 have key : ∀ b, b < w.heap.size → some b ≠ row → some b ≠ row' := fun b hb hne e => by
  rcases hr with e2 | e2
  ·
   exact hne (e.trans e2)
  ·
   rw [e2] at e; injection e with e; omega
 exact ⟨h.ra.grown hg fun h0 ad e => (h.a h0 ad e).2, Rd.grownN h.ri hg fun h0 ad e => (h.p h0 ad e).2, fun h0 ad e => ⟨Nat.lt_of_lt_of_le (h.a h0 ad e).1 hg.size, key _ (h.a h0 ad e).1 (h.a h0 ad e).2⟩, fun h0 ad e => ⟨Nat.lt_of_lt_of_le (h.p h0 ad e).1 hg.size, key _ (h.p h0 ad e).1 (h.p h0 ad e).2⟩⟩
/-- another block has turned. -/
theorem ScOk.kept {w w' : World} {row : Option Nat} {s : Sc} {R : Nat} (h : ScOk w row s) (hg : w.grownBy w' (some R)) (ha : ∀ ad, s.A = some ad → ad.block ≠ R) (hp : ∀ ad, s.P = some ad → ad.block ≠ R) : ScOk w' row s :=
 ⟨h.ra.grown hg fun _ ad e e2 => ha ad e (by injection e2), Rd.grownN h.ri hg fun _ ad e e2 => hp ad e (by injection e2), fun h0 ad e => ⟨Nat.lt_of_lt_of_le (h.a h0 ad e).1 hg.size, (h.a h0 ad e).2⟩, fun h0 ad e => ⟨Nat.lt_of_lt_of_le (h.p h0 ad e).1 hg.size, (h.p h0 ad e).2⟩⟩
/-- a store into another block leaves a row's makings as they are. -/
theorem ScOk.set {w : World} {row : Option Nat} {s : Sc} {R : Nat} {o : Nat} {v : Value} (h : ScOk w row s) (ha : ∀ ad, s.A = some ad → ad.block ≠ R) (hp : ∀ ad, s.P = some ad → ad.block ≠ R) : ScOk (w.setCell ⟨R, o, none⟩ v) row s :=
 h.kept ⟨rfl, rfl, rfl, by simp, fun k hk hne => Below.heap_setCell _ _ _ k (fun e => hne (by rw [e]))⟩ ha hp
/-- the rules that are being made: block R; its first cell holds the rows l, laid from block B0 on. -/
structure RsM (w : World) (R B0 : Nat) (wr : World) (l : List Sc) (v : Value) : Prop where
 gr : Gr w wr
 ge : w.heap.size ≤ R
 lt : R < B0
 sz : B0 ≤ wr.heap.size
 c0 : wr.cell? ⟨R, 0, none⟩ = some v
 c1 : wr.cell? ⟨R, 1, none⟩ = some (.slice none 0 0)
 f0 : wr.frozen? ⟨R, 0, none⟩ = false
 f1 : wr.frozen? ⟨R, 1, none⟩ = false
 own : wr.ownsRow B0 73 4 v l.length (sccells l)
 ok : ∀ s ∈ l, ScOk wr v.ownBlock s ∧ (∀ ad, s.A = some ad → B0 ≤ ad.block) ∧ ∀ ad, s.P = some ad → B0 ≤ ad.block
theorem RsM.gr' {w : World} {R B0 : Nat} {wr wr' : World} {l : List Sc} {v : Value} (h : RsM w R B0 wr l v) (g : Gr wr wr') : RsM w R B0 wr' l v :=
 have hl : R < wr.heap.size := Nat.lt_of_lt_of_le h.lt h.sz
 ⟨h.gr.trans g, h.ge, h.lt, Nat.le_trans h.sz g.size, (Below.cell g (p := ⟨R, 0, none⟩) hl).trans h.c0, (Below.cell g (p := ⟨R, 1, none⟩) hl).trans h.c1, (Below.frozen g (p := ⟨R, 0, none⟩) hl).trans h.f0, (Below.frozen g (p := ⟨R, 1, none⟩) hl).trans h.f1,
  own_grU h.own g, fun s hs => ⟨(h.ok s hs).1.gr g, (h.ok s hs).2⟩⟩
/-- one other block of the call's own has turned. -/
theorem RsM.other {w : World} {R B0 k : Nat} {wr wr' : World} {l : List Sc} {v : Value} (h : RsM w R B0 wr l v) (g : wr.grownBy wr' (some k)) (hw : w.heap.size ≤ k) (hR : k ≠ R) (hk : k < B0) : RsM w R B0 wr' l v := by
 have hl : R < wr.heap.size := Nat.lt_of_lt_of_le h.lt h.sz
 have hRR := g.block R hl (fun e => hR (by injection e with e; exact e.symm))
 have ne : ∀ {ad : Addr}, B0 ≤ ad.block → some ad.block ≠ some k := fun h e => by injection e with e; omega
 have hvk : ∀ j, v.ownBlock = some j → j ≠ k := fun j hj e => by have := (h.own.lt j hj).1; omega
 refine ⟨Below.grown h.gr g h.gr.size (fun j e => by cases e; exact hw), h.ge, h.lt, Nat.le_trans h.sz g.size, (World.cell?_of_block (a := ⟨R, 0, none⟩) hRR).trans h.c0, (World.cell?_of_block (a := ⟨R, 1, none⟩) hRR).trans h.c1, (World.frozen?_of_block (a := ⟨R, 0, none⟩) hRR).trans h.f0, (World.frozen?_of_block (a := ⟨R, 1, none⟩) hRR).trans h.f1, h.own.kept g (.inr fun e => ?_), fun s hs => ?_⟩
 ·
  exact hvk k e rfl
 ·
  obtain ⟨k0, k1, k2⟩ := h.ok s hs
  exact ⟨k0.kept g (fun ad e e2 => ne (k1 ad e) (by rw [e2])) (fun ad e e2 => ne (k2 ad e) (by rw [e2])), k1, k2⟩
theorem info_schema : (Tryz.prog.info? 73).map (fun i => (i.zero, i.size, i.bytes)) = some (some (.agg #[.string ByteArray.empty, .slice none 0 0, .int .i64 0, .slice none 0 0]), 4, 72) := by kernel_rfl
end Go.Proofs.YtjapddfnpmlifaaGreatDoor
