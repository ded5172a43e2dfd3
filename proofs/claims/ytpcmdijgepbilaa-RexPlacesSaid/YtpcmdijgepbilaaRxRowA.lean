/- group, put together; the contract of rex.reader.row. -/
import Derived.Test.YtpcmdijgepbilaaRxGroup
import Derived.Test.YtpcmdijgepbilaaRegZ
import Derived.OwnWalk
namespace Go.Proofs.Ytpcmdijgepbilaa
set_option linter.unusedVariables false
set_option linter.unusedSimpArgs false
open Go.RowKit

section
variable {P : Program} {w : World}
theorem wp_append_rd {o : Oper} {a : Act} {Q : Exit → Act → World → Prop} {K : Act → World → Prop} (s x : Operand) (t : TypeId)
    (ho : o.op = .call { callee := .builtin .append, args := #[s, x], argTypes := #[t, t] })
    (base : Nat) (e : TypeId) (i : TypeInfo) (z : Value) (size bytes : Nat) (ht : P.underlying t = some (.slice e)) (hi : P.info? e = some i) (hz : i.zero = some z)
    (hsize : i.size = size) (hby : i.bytes = bytes) (hzs : z.cells.size = size) (hsz : 0 < size)
    (v : Value) (n : Nat) (xs : List Value) (hs : a.eval s = v) (hown : w.ownsRow base e size v n xs)
    (ad : Addr) (m c : Nat) (news : List Value) (hx : a.eval x = .slice (some ad) m c) (hr : Rd w size (some ad) m news) (hm : 0 < m) (h1 : ∀ u ∈ news, u.oneCell' = true)
    (h63 : n + m ≤ maxLen) (hbytes : (n + m) * bytes ≤ 140737488355328) (hbase : base ≤ w.heap.size)
    (h : ∀ v' w', w'.ownsRow base e size v' (n + m) (xs ++ news) → w.grownBy w' v.ownBlock → (v'.ownBlock = v.ownBlock ∨ v'.ownBlock = some w.heap.size) → K (a.put o.dst v') w') : Oper.wp P o a w K Q := by
  obtain ⟨ad', e', _, hc⟩ := hr.2 hm
  injection e' with e'
  subst e'
  obtain ⟨v', w', hr1, h2, h3, _, h4⟩ := run_append_own_at (P := P) w base t o.type e i z size bytes ht hi hz hsize hby hzs hsz v n xs hown ad m c news hr.1 hc h1 h63 hbytes hbase
  unfold Oper.wp execOp
  simp only [ho, resolve, invoke, builtin, Sem.run_bind, Sem.run_pure, Result.andThen_ok, List.map_toArray, List.map_cons, List.map_nil, hs, hx, hr1]
  exact h v' w' h2 h3 h4
theorem own_set {base : Nat} {e : TypeId} {size n : Nat} {v : Value} {xs : List Value} (h : w.ownsRow base e size v n xs) {p : Addr} (hp : p.block < base) (u : Value) : (w.setCell p u).ownsRow base e size v n xs := by
  obtain ⟨h1, ⟨hv, h0⟩ | ⟨g', cap, cur, hv, hb, hh, h2⟩⟩ := h
  · exact ⟨h1, .inl ⟨hv, h0⟩⟩
  · exact ⟨h1, .inr ⟨g', cap, cur, hv, hb, (Below.heap_setCell w p u g' (by omega)).trans hh, h2⟩⟩
end

theorem hasPrefix_open (r : List UInt8) : Lib.hasPrefix r [63, 58] = (headIs 63 r && headIs 58 (r.drop 1)) := by
  have h0 : ∀ (n : Nat) (hn : n < 256) (c : UInt8), ((UInt8.ofNat n) == c) = (c.toNat == n) := fun n hn c => by
    by_cases h : c.toNat = n
    · have : c = UInt8.ofNat n := by rw [← h]; simp
      subst this
      simp [UInt8.toNat_ofNat, Nat.mod_eq_of_lt hn]
    · rw [beq_eq_false_iff_ne.2 h]
      refine beq_eq_false_iff_ne.2 (fun e => h ?_)
      rw [← e]; simp [UInt8.toNat_ofNat, Nat.mod_eq_of_lt hn]
  match r with
  | [] => rfl
  | [c] => simp [Lib.hasPrefix, List.isPrefixOf, headIs]
  | c :: d :: t =>
    show (((63 : UInt8) == c) && (((58 : UInt8) == d) && true)) = ((c.toNat == 63) && (d.toNat == 58))
    rw [show (63 : UInt8) = UInt8.ofNat 63 from rfl, show (58 : UInt8) = UInt8.ofNat 58 from rfl, h0 63 (by decide), h0 58 (by decide), Bool.and_true]
theorem group_all {w : World} {R n : Nat} {s : ByteArray} {q : Rs} (Wf : Rs → Pc × Rs) (hWf : ∀ s, Gd 0 s (Wf s).2) (h : Rdr w R s n q) (hs : (s.size : Int) ≤ 4096) (hg : q.groups ≤ 5000) (hd : q.deep ≤ 5000)
    (HW : ∀ W m, Rdr W R s m (openS { q with deep := q.deep + 1 }).2 → Calls Try.prog 12 #[.pointer (some ⟨R, 0, none⟩)] W (RetP R s W (Wf (openS { q with deep := q.deep + 1 }).2).1 (Wf (openS { q with deep := q.deep + 1 }).2).2)) :
    Calls Try.prog 34 #[.pointer (some ⟨R, 0, none⟩)] w (RetP R s w (groupS Wf q).1 (groupS Wf q).2) := by
  unfold groupS
  by_cases h64 : 64 ≤ q.deep
  · rw [show Nat.ble 64 q.deep = true from (by rw [Nat.ble_eq]; exact h64)]
    exact group_over h hs h64 hd
  · have e64 : Nat.ble 64 q.deep = false := by
      cases e : Nat.ble 64 q.deep with
      | false => rfl
      | true => rw [Nat.ble_eq] at e; exact absurd e h64
    rw [e64]
    have hp := hasPrefix_open q.rest
    have ho := hWf (openS { q with deep := q.deep + 1 }).2
    have hod := (openS_gd { q with deep := q.deep + 1 }).2.2.1
    have ht : ∀ t : Rs, t = (Wf (openS { q with deep := q.deep + 1 }).2).2 → t.bad = false → t.deep = q.deep + 1 := fun t e hb => by subst e; rw [ho.e hb, hod]
    cases hx : (headIs 63 q.rest && headIs 58 (q.rest.drop 1))
    · rw [hx] at hp
      have eo : openS { q with deep := q.deep + 1 } = (q.groups + 1, { q with deep := q.deep + 1, groups := q.groups + 1 }) := by unfold openS; simp only [hx, cond_false]
      rw [eo] at HW ht ⊢
      exact group_false h hs (by omega) hp hg _ _ (ht _ rfl) HW
    · rw [hx] at hp
      have eo : openS { q with deep := q.deep + 1 } = (0, { q with deep := q.deep + 1, rest := q.rest.drop 2 }) := by unfold openS; simp only [hx, cond_true]
      obtain ⟨c, d, r, hq⟩ : ∃ c d r, q.rest = c :: d :: r := by
        match e : q.rest with
        | [] => rw [e] at hx; cases hx
        | [c] => rw [e] at hx; simp [headIs] at hx
        | c :: d :: r => exact ⟨c, d, r, rfl⟩
      rw [eo] at HW ht ⊢
      have e2 : q.rest.drop 2 = r := by rw [hq]; rfl
      rw [e2] at HW ht ⊢
      exact group_true h hs (by omega) hq hp _ _ (ht _ rfl) HW

theorem ptrs_one (l : List Nat) : ∀ u ∈ ptrs l, u.oneCell' = true := by
  intro u hu
  simp only [ptrs, List.mem_map] at hu
  obtain ⟨b, _, rfl⟩ := hu
  rfl
theorem info_ptr : (Try.prog.info? 46).map (fun i => (i.zero, i.size, i.bytes)) = some (some (.pointer none), 1, 8) := by kernel_rfl
theorem PcL.app_nil : ∀ l : PcL, l.app .nil = l
  | .nil => rfl
  | .cons p l => by simp only [PcL.app, PcL.app_nil l]
theorem PcL.app_snoc (p : Pc) (t : PcL) : ∀ l : List Pc, (PcL.ofList (l ++ [p])).app t = (PcL.ofList l).app (.cons p t)
  | [] => rfl
  | q :: l => by simp only [List.cons_append, PcL.ofList, PcL.app, PcL.app_snoc p t l]
/-- a piece's node, its kids a slice. -/
def NS (P : Nat) (A : Option Addr) (k c : Nat) (W : World) : Prop := Node W P 10 [] (.slice A k c) 0 false ∧ W.frozen? ⟨P, 2, none⟩ = false ∧ P < W.heap.size
theorem NS.gx {P k c R : Nat} {A : Option Addr} {W W' : World} (h : NS P A k c W) (x : GX R W W') (hn : P ≠ R) : NS P A k c W' := ⟨h.1.gx x h.2.2 hn, (x.frozen (p := ⟨P, 2, none⟩) h.2.2 hn).trans h.2.1, Nat.lt_of_lt_of_le h.2.2 x.size⟩
theorem NS.gr {P k c : Nat} {A : Option Addr} {W W' : World} (h : NS P A k c W) (x : Gr W W') : NS P A k c W' := h.gx (GX.of_gr (R := P + 1) x) (by omega)
theorem NS.drew {P k c : Nat} {A : Option Addr} {W : World} (h : NS P A k c W) : NS P A k c W.drew := h.gr (Gr.drew (Gr.refl _))
theorem NS.grown {P k c : Nat} {A : Option Addr} {W W' : World} {row : Option Nat} (h : NS P A k c W) (x : W.grownBy W' row) (hn : row ≠ some P) : NS P A k c W' := by
  have e : W'.heap[P]? = W.heap[P]? := x.block P h.2.2 (fun e => hn e.symm)
  obtain ⟨⟨n0, n1, n2, n3, n4⟩, hf, hz⟩ := h
  exact ⟨⟨(World.cell?_of_block (a := ⟨P, 0, none⟩) e).trans n0, (World.cell?_of_block (a := ⟨P, 1, none⟩) e).trans n1, (World.cell?_of_block (a := ⟨P, 2, none⟩) e).trans n2, (World.cell?_of_block (a := ⟨P, 3, none⟩) e).trans n3, (World.cell?_of_block (a := ⟨P, 4, none⟩) e).trans n4⟩, (World.frozen?_of_block (a := ⟨P, 2, none⟩) e).trans hf, Nat.lt_of_lt_of_le hz x.size⟩
end Go.Proofs.Ytpcmdijgepbilaa
