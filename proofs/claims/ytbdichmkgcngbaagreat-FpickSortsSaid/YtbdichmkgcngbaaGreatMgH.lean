/- The library's insertion sort (exchanges from the end on), and the order that lays each new one where it belongs: one. No program in sight. · 'GX R': what leaves all but one block alone. No program in sight. · The library's insertion sort over comparing functions, at series and at entries: the closures' contracts, and what the sort leaves in the row. -/
import Derived.Test.YtbdichmkgcngbaaGreatMgE
import Derived.Test.YtbdichmkgcngbaaGreatMgA
import Derived.Test.YtbdichmkgcngbaaGreatFpShelf
import Derived.Shelf.SlSortCmp.InsertionK
namespace Go.Proofs.YtbdichmkgcngbaaGreat
set_option linter.unusedVariables false
set_option linter.unusedSimpArgs false
open Go.RowKit Go.Sort

theorem posR_take {α : Type} (lt : α → α → Bool) (x : α) (A B : List α) : ∀ k, k ≤ A.length → posR lt x (A ++ B) k = posR lt x A k
  | 0, _ => rfl
  | k + 1, h => by
    unfold posR
    rw [List.getElem?_append_left (by omega)]
    cases A[k]? with
    | none => rfl
    | some y => simp only; rw [posR_take lt x A B k (by omega)]
section
variable {α : Type} [Inhabited α]
theorem arr_at {d : Array α} {A B : List α} {x : α} (h : d.toList = A ++ x :: B) : d[A.length]! = x := by
  have : d[A.length]? = some x := by
    rw [← Array.getElem?_toList, h, List.getElem?_append_right (Nat.le_refl _)]; simp
  rw [getElem!_def, this]
theorem arr_swp {d : Array α} {A B : List α} {x y : α} (h : d.toList = A ++ y :: x :: B) : (swp d (A.length + 1) A.length).toList = A ++ x :: y :: B := by
  have h0 : d[A.length]! = y := arr_at h
  have h1 : d[A.length + 1]! = x := by
    have := arr_at (d := d) (A := A ++ [y]) (B := B) (x := x) (by rw [h]; simp)
    simpa using this
  unfold swp
  rw [h0, h1, Array.toList_setIfInBounds, Array.toList_setIfInBounds, h]
  simp [List.set_append]
theorem insInner_eq (lt : α → α → Bool) (x : α) : ∀ (j : Nat) (A B : List α) (d : Array α), A.length = j → d.toList = A ++ x :: B →
    (insInner lt 0 j d).toList = A.take (posR lt x A j) ++ x :: (A.drop (posR lt x A j) ++ B)
  | 0, A, B, d, hA, hd => by
    have : A = [] := List.eq_nil_of_length_eq_zero hA
    subst this
    simpa [insInner, posR] using hd
  | j + 1, A, B, d, hA, hd => by
    rcases List.eq_nil_or_concat A with rfl | ⟨A', y, rfl⟩
    · simp at hA
    · rw [List.concat_eq_append] at hA hd ⊢
      have hA' : A'.length = j := by simpa using hA
      have hd' : d.toList = A' ++ y :: x :: B := by rw [hd]; simp
      have e0 : d[j]! = y := by rw [← hA']; exact arr_at hd'
      have e1 : d[j + 1]! = x := by
        have := arr_at (d := d) (A := A' ++ [y]) (B := B) (x := x) hd
        rw [← hA']; simpa using this
      have ey : (A' ++ [y])[j]? = some y := by rw [← hA']; simp
      unfold insInner posR
      rw [e0, e1, ey]
      simp only [Nat.succ_pos, Nat.zero_lt_succ, decide_true, Bool.true_and, gt_iff_lt]
      cases hlt : lt x y
      · simp only [Bool.false_eq_true, if_false, cond_false]
        have hl : j + 1 = (A' ++ [y]).length := by simpa using hA.symm
        rw [hd, hl, List.take_length, List.drop_length]
        simp
      · simp only [if_true, cond_true]
        have hs := arr_swp hd'
        rw [hA'] at hs
        rw [insInner_eq lt x j A' (y :: B) _ hA' hs, posR_take lt x A' [y] j (by omega)]
        have hp := posR_le lt x A' j
        rw [List.take_append_of_le_length (by omega), List.drop_append_of_le_length (by omega)]
        simp
theorem insOuter_eq (lt : α → α → Bool) : ∀ (m i : Nat) (A B : List α) (d : Array α), A.length = i → B.length = m → d.toList = A ++ B →
    (insOuter lt 0 (i + m) i d).toList = B.foldl (insR lt) A
  | 0, i, A, B, d, hA, hB, hd => by
    have : B = [] := List.eq_nil_of_length_eq_zero hB
    subst this
    unfold insOuter
    rw [if_neg (by omega)]
    simpa using hd
  | m + 1, i, A, B, d, hA, hB, hd => by
    match B, hB with
    | x :: B, hB =>
      have hB' : B.length = m := by simpa using hB
      unfold insOuter
      rw [if_pos (by omega)]
      have h1 := insInner_eq lt x i A B d hA hd
      have h2 : (insInner lt 0 i d).toList = insR lt A x ++ B := by
        rw [h1]; unfold insR; rw [hA]; simp
      have e : i + (m + 1) = (i + 1) + m := by omega
      rw [e, insOuter_eq lt m (i + 1) (insR lt A x) B _ (by rw [insR_len, hA]) hB' h2]
      rfl
/-- exchanges from the end on lay each new one where it belongs. -/
theorem ins_sort (lt : α → α → Bool) (d : Array α) : (insertionSort lt d 0 d.size).toList = sortR lt d.toList := by
  unfold insertionSort sortR
  match h : d.toList with
  | [] =>
    have hs : d.size = 0 := by rw [← Array.length_toList, h]; rfl
    unfold insOuter
    rw [hs, if_neg (by omega), h]
    rfl
  | x :: B =>
    have hs : d.size = (0 + 1) + B.length := by rw [← Array.length_toList, h]; simp; omega
    rw [hs, insOuter_eq lt B.length (0 + 1) [x] B d rfl rfl h]
    rfl
theorem ins_none (lt : α → α → Bool) (d : Array α) (n : Nat) : insertionSort lt d n n = d := by
  unfold insertionSort insOuter
  rw [if_neg (by omega)]
end
end Go.Proofs.YtbdichmkgcngbaaGreat
namespace Go.Proofs.YtbdichmkgcngbaaGreat
set_option linter.unusedVariables false
set_option linter.unusedSimpArgs false
open Go.RowKit

/-- all that was there, but block R, is as it was. -/
structure GX (R : Nat) (w w' : World) : Prop where
  os : w'.os = w.os
  tape : w'.tape = w.tape
  output : w'.output = w.output
  size : w.heap.size ≤ w'.heap.size
  block : ∀ k, k < w.heap.size → k ≠ R → w'.heap[k]? = w.heap[k]?
theorem GX.refl (R : Nat) (w : World) : GX R w w := ⟨rfl, rfl, rfl, Nat.le_refl _, fun _ _ _ => rfl⟩
theorem GX.trans {R : Nat} {a b c : World} (h : GX R a b) (k : GX R b c) : GX R a c :=
  ⟨k.os.trans h.os, k.tape.trans h.tape, k.output.trans h.output, Nat.le_trans h.size k.size, fun i hi hn => (k.block i (Nat.lt_of_lt_of_le hi h.size) hn).trans (h.block i hi hn)⟩
theorem GX.of_gr {R : Nat} {w w' : World} (h : Gr w w') : GX R w w' := ⟨h.os, h.tape, h.output, h.size, fun k hk _ => Below.block h k hk⟩
theorem GX.alloc {R : Nat} {a w : World} (h : GX R a w) (o : Obj) : GX R a (w.alloc o) := h.trans (GX.of_gr (Gr.alloc (Gr.refl w) o))
theorem GX.drew {R : Nat} {a w : World} (h : GX R a w) : GX R a w.drew := h.trans (GX.of_gr (Gr.drew (Gr.refl w)))
theorem GX.drewN {R : Nat} {a w : World} (h : GX R a w) (n : Nat) : GX R a (w.drewN n) := ⟨h.os, h.tape, h.output, h.size, h.block⟩
theorem GX.setCell {R : Nat} {a w : World} (h : GX R a w) {p : Addr} (hp : p.block = R ∨ a.heap.size ≤ p.block) (u : Value) : GX R a (w.setCell p u) :=
  ⟨h.os, h.tape, h.output, Nat.le_trans h.size (by simp [World.setCell]), fun k hk hn => (Below.heap_setCell _ _ _ _ (by omega)).trans (h.block k hk hn)⟩
theorem GX.gr {R : Nat} {a w w' : World} (h : Gr a w) (g : GX R w w') (hR : a.heap.size ≤ R) : Gr a w' :=
  ⟨g.os.trans h.os, g.tape.trans h.tape, g.output.trans h.output, Nat.le_trans h.size g.size, fun k hk => (g.block k (Nat.lt_of_lt_of_le hk h.size) (by omega)).trans (h.block k hk)⟩
theorem GX.cell {R : Nat} {w w' : World} (h : GX R w w') {p : Addr} (hp : p.block < w.heap.size) (hn : p.block ≠ R) : w'.cell? p = w.cell? p := World.cell?_of_block (h.block _ hp hn)
theorem GX.frozen {R : Nat} {w w' : World} (h : GX R w w') {p : Addr} (hp : p.block < w.heap.size) (hn : p.block ≠ R) : w'.frozen? p = w.frozen? p := World.frozen?_of_block (h.block _ hp hn)
theorem GX.cells {R : Nat} {W w1 : World} (hb : GX R W w1) : (∀ b o, b < W.heap.size → b ≠ R → w1.cell? ⟨b, o, none⟩ = W.cell? ⟨b, o, none⟩) ∧ (∀ b o, b < W.heap.size → b ≠ R → w1.frozen? ⟨b, o, none⟩ = W.frozen? ⟨b, o, none⟩) :=
  ⟨fun b o h hn => hb.cell (p := ⟨b, o, none⟩) h hn, fun b o h hn => hb.frozen (p := ⟨b, o, none⟩) h hn⟩
end Go.Proofs.YtbdichmkgcngbaaGreat
namespace Go.Proofs.YtbdichmkgcngbaaGreat
open Go.RowKit Go.Sort Go.Shelf
set_option linter.unusedVariables false
set_option linter.unusedSimpArgs false

theorem bytes_lt : ∀ (l m : List UInt8), decide (Lib.compareBytes l m < 0) = Op.bytesLess l m
  | [], [] => rfl
  | [], _ :: _ => rfl
  | _ :: _, [] => rfl
  | a :: x, b :: y => by
    unfold Lib.compareBytes Op.bytesLess
    by_cases h : a < b
    · simp [h]
    · by_cases h' : b < a
      · have hne : a ≠ b := fun e => by subst e; exact h h'
        simp [h, h', hne]
      · have he : a = b := UInt8.le_antisymm (UInt8.not_lt.1 h') (UInt8.not_lt.1 h)
        subst he
        simp [bytes_lt x y]
theorem cmpI_eq (a b : Int) : cmpI a b = Lib.compareInt a b := rfl

instance : Inhabited Sq := ⟨⟨⟨⟨#[]⟩, 0, 0, [], 0⟩, none, 0⟩⟩
instance : Inhabited Vl := ⟨⟨false, 0⟩⟩
/-- a series' cells. -/
def sqC (x : Sq) : List Value := [.string x.s.name, .int .i64 x.s.start, .int .i64 x.s.step, .slice x.A x.s.vals.length x.c, .int .i64 x.s.cons]
/-- An entry: a series, and what it goes by. -/
abbrev En := Sq × Vl
def enC (x : En) : List Value := [.string x.1.s.name, .int .i64 x.1.s.start, .int .i64 x.1.s.step, .slice x.1.A x.1.s.vals.length x.1.c, .int .i64 x.1.s.cons, .bool x.2.ok, .int .i64 x.2.n]
def cfN (x y : Sq) : Int := Lib.compareBytes x.s.name.data.toList y.s.name.data.toList
def cfE (least : Bool) (x y : En) : Int := cmpV least x.2 y.2
theorem cfN_lt (x y : Sq) : ltOf cfN x y = ltN x.s.name y.s.name := by
  unfold ltOf cfN ltN
  rw [bytes_lt, ByteArray.toList_eq, ByteArray.toList_eq]
theorem cfE_lt (least : Bool) (x y : En) : ltOf (cfE least) x y = ltV least x.2 y.2 := cmpV_lt least x.2 y.2

set_option maxHeartbeats 1600000 in
/-- the closure that compares names. -/
theorem cmpn_any (x y : Sq) (W : World) : Calls Tryz.prog 57 #[.agg (sqC x).toArray, .agg (sqC y).toArray] W fun e w' => e = .returned (.int .i64 (cfN x y)) ∧ ∃ q os', w' = grow (W.drewN q) os' := by
  unfold sqC
  have hcon := fun W' => Tryz.strings_Compare x.s.name y.s.name W'
  change ∀ W', Calls Tryz.prog 58 _ _ _ at hcon
  unfold cfN
  generalize Lib.compareBytes x.s.name.data.toList y.s.name.data.toList = r at hcon ⊢
  go_enter Tryz.func57, Tryz.ntmps57
  go_wp2_with (go_at_call 58; refine (hcon _).mono ?_; rintro e w' ⟨rfl, rfl⟩)
  go_ret
  exact ⟨rfl, 0, _, by rw [alloc_eq_grow, alloc_eq_grow, grow_grow]; rfl⟩

set_option maxHeartbeats 3200000 in
/-- the closure that compares what entries go by. -/
theorem cmpe_any (B : Nat) (least : Bool) (x y : En) (W : World) (hB : W.cell? ⟨B, 3, none⟩ = some (.bool least)) (hlt : B < W.heap.size) : Calls Tryz.prog 91 #[.agg (enC x).toArray, .agg (enC y).toArray, .pointer (some ⟨B, 0, none⟩)] W fun e w' => e = .returned (.int .i64 (cfE least x y)) ∧ ∃ q os', w' = grow (W.drewN q) os' := by
  have hcon := fun a b W' => Tryz.cmp_Compare_int a b W'
  change ∀ a b W', Calls Tryz.prog 92 _ _ _ at hcon
  obtain ⟨sx, ⟨xo, xn⟩⟩ := x
  obtain ⟨sy, ⟨yo, yn⟩⟩ := y
  unfold enC cfE
  simp only
  cases xo <;> cases yo <;> cases least
  all_goals
    simp only [cmpV, cond_true, cond_false, cmpI_eq]
  case true.true.true =>
    have hc := hcon xn yn
    generalize Lib.compareInt xn yn = r at hc ⊢
    clear hcon
    go_enter Tryz.func91, Tryz.ntmps91
    go_wp2_with (go_at_call 92; refine (hc _).mono ?_; rintro e w' ⟨rfl, rfl⟩)
    go_ret
    exact ⟨rfl, 0, _, by rw [alloc_eq_grow, alloc_eq_grow, grow_grow]; rfl⟩
  case true.true.false =>
    have hc := hcon yn xn
    generalize Lib.compareInt yn xn = r at hc ⊢
    clear hcon
    go_enter Tryz.func91, Tryz.ntmps91
    go_wp2_with (go_at_call 92; refine (hc _).mono ?_; rintro e w' ⟨rfl, rfl⟩)
    go_ret
    exact ⟨rfl, 0, _, by rw [alloc_eq_grow, alloc_eq_grow, grow_grow]; rfl⟩
  all_goals
    clear hcon
    go_enter Tryz.func91, Tryz.ntmps91
    go_wp2
    go_ret
    exact ⟨rfl, 0, _, by rw [alloc_eq_grow, alloc_eq_grow, grow_grow]; rfl⟩

/-- the library's insertion sort at this program's numbers. -/
def renS : Ren := ⟨fun | 20 => 111 | n => n, fun | 0 => 0 | 3 => 3 | 4 => 4 | 22 => 24 | 24 => 30 | 25 => 89 | n => n, fun | n => n⟩
theorem laysS : SlLaysF0.n20 Tryz.prog renS := {
  mixed := by kernel_rfl
  f20 := ⟨Tryz.f111.name, rfl, Tryz.func111.trans (congrArg some (by kernel_rfl))⟩
  t0 := Tryz.underlying0
  a0 := Tryz.isAgg0
  z0 := Tryz.sizeOf0
  v0 := Tryz.zeroValue0
  t3 := Tryz.underlying3
  a3 := Tryz.isAgg3
  z3 := Tryz.sizeOf3
  v3 := Tryz.zeroValue3
  t4 := Tryz.underlying4
  a4 := Tryz.isAgg4
  z4 := Tryz.sizeOf4
  v4 := Tryz.zeroValue4
  t22 := Tryz.underlying24
  a22 := Tryz.isAgg24
  z22 := Tryz.sizeOf24
  v22 := Tryz.zeroValue24
  t25 := Tryz.underlying89
  a25 := Tryz.isAgg89
  z25 := Tryz.sizeOf89
  v25 := Tryz.zeroValue89 }
/-- the library's insertion sort at this program's numbers. -/
def renE : Ren := ⟨fun | 20 => 131 | n => n, fun | 0 => 0 | 3 => 3 | 4 => 4 | 22 => 126 | 24 => 128 | 25 => 131 | n => n, fun | n => n⟩
theorem laysE : SlLaysF0.n20 Tryz.prog renE := {
  mixed := by kernel_rfl
  f20 := ⟨Tryz.f131.name, rfl, Tryz.func131.trans (congrArg some (by kernel_rfl))⟩
  t0 := Tryz.underlying0
  a0 := Tryz.isAgg0
  z0 := Tryz.sizeOf0
  v0 := Tryz.zeroValue0
  t3 := Tryz.underlying3
  a3 := Tryz.isAgg3
  z3 := Tryz.sizeOf3
  v3 := Tryz.zeroValue3
  t4 := Tryz.underlying4
  a4 := Tryz.isAgg4
  z4 := Tryz.sizeOf4
  v4 := Tryz.zeroValue4
  t22 := Tryz.underlying126
  a22 := Tryz.isAgg126
  z22 := Tryz.sizeOf126
  v22 := Tryz.zeroValue126
  t25 := Tryz.underlying131
  a25 := Tryz.isAgg131
  z25 := Tryz.sizeOf131
  v25 := Tryz.zeroValue131 }

theorem flat_at {α : Type} (enc : α → List Value) (k : Nat) (hk : ∀ x, (enc x).length = k) (hk0 : 0 < k) : ∀ (L : List α) (i : Nat) (h : i < L.length), ∀ j, j < k → (L.flatMap enc)[i * k + j]? = (enc L[i])[j]?
  | [], i, h, j, hj => by simp at h
  | x :: L, 0, h, j, hj => by
    rw [List.flatMap_cons, Nat.zero_mul, Nat.zero_add, List.getElem?_append_left (by rw [hk]; exact hj)]; rfl
  | x :: L, i + 1, h, j, hj => by
    rw [List.flatMap_cons, List.getElem?_append_right (by rw [hk, Nat.add_mul]; omega), hk, show (i + 1) * k + j - k = i * k + j by rw [Nat.add_mul]; omega, flat_at enc k hk hk0 L i (by simpa using h) j hj]; rfl
theorem flat_len {α : Type} (enc : α → List Value) (k : Nat) (hk : ∀ x, (enc x).length = k) (L : List α) : (L.flatMap enc).length = L.length * k := by
  induction L with
  | nil => simp
  | cons x L ih => rw [List.flatMap_cons, List.length_append, ih, hk, List.length_cons, Nat.add_mul]; omega
section
variable {α : Type} [Inhabited α] (enc : α → List Value) (k : Nat)
theorem gx_sort (w : World) (blk off m : Nat) (dk : Array α) (os : Array Obj) : GX blk w (sortWorldK enc k w blk off m dk os) := by
  refine ⟨rfl, rfl, rfl, size_sortWorldK_c enc k w blk off m dk os, fun i hi hn => ?_⟩
  have e : (sortWorldK enc k w blk off m dk os).heap = (putRowK enc k (Sort.ahead w m) blk off dk).heap ++ os := rfl
  have hs : i < (putRowK enc k (Sort.ahead w m) blk off dk).heap.size := by rw [size_putRowK]; exact hi
  rw [e, Array.getElem?_append_left hs]
  show (Array.modify w.heap blk _)[i]? = _
  rw [Array.getElem?_modify, if_neg (fun h => hn h.symm)]
theorem flat_any (hk : ∀ x, (enc x).length = k) (hk0 : 0 < k) (d : Array α) (t : Nat) (h : t < d.size * k) : (d.toList.flatMap enc)[t]? = some (flatK enc k d)[t]! := by
  have hd : t / k < d.size := (Nat.div_lt_iff_lt_mul hk0).2 h
  have hm : t % k < k := Nat.mod_lt _ hk0
  have e := flat_at enc k hk hk0 d.toList (t / k) (by simpa using hd) (t % k) hm
  rw [Nat.div_add_mod'] at e
  rw [e, get_flatK enc k d t h]
  have hx : d[t / k]! = d[t / k] := getElem!_pos d (t / k) hd
  rw [hx, Array.getElem_toList]
  have hl : t % k < (enc d[t / k]).length := by rw [hk]; exact hm
  rw [List.getElem?_eq_getElem hl, getElem!_pos (enc d[t / k]) (t % k) hl]
theorem add_zero_at (g j : Nat) : (⟨g, 0, none⟩ : Addr).add j = ⟨g, 0 + j, none⟩ := by
  unfold Addr.add; split
  · rename_i h; subst h; rfl
  · rfl
theorem holds_own (hk : ∀ x, (enc x).length = k) (hk0 : 0 < k) {w : World} {base g n c : Nat} {e : TypeId} {d : Array α} (h : w.ownsRow base e k (.slice (some ⟨g, 0, none⟩) n c) n (d.toList.flatMap enc)) (hn : d.size = n) : HoldsK enc k w g 0 d ∧ (0 < n → g < w.heap.size ∧ base ≤ g) := by
  refine ⟨fun j hj => ?_, fun h0 => ?_⟩
  · rw [size_flatK] at hj
    have hx := flat_any enc k hk hk0 d j hj
    obtain ⟨_, ⟨hv, _⟩ | ⟨g', cap, cur, hv, _, hh, _⟩⟩ := id h
    · cases hv
    · injection hv with h1
      injection h1 with h1
      injection h1 with h1
      subst h1
      refine ⟨?_, frozen_of_row w g (0 + j) _ _ hh⟩
      have hc := h.cells (g := g) rfl j _ hx
      rw [add_zero_at] at hc
      exact hc
  · obtain ⟨_, ⟨hv, h1⟩ | ⟨g', cap, cur, hv, hb, hh, _⟩⟩ := h
    · cases hv
    · injection hv with h1
      injection h1 with h1
      injection h1 with h1
      subst h1
      exact ⟨(Array.getElem?_eq_some_iff.1 hh).1, hb⟩
theorem rd_holds (hk : ∀ x, (enc x).length = k) (hk0 : 0 < k) {w : World} {g n : Nat} {d : Array α} (h : HoldsK enc k w g 0 d) (hg : g < w.heap.size) (hn : d.size = n) : Rd w k (some ⟨g, 0, none⟩) n (d.toList.flatMap enc) := by
  refine ⟨by rw [flat_len enc k hk, ← hn]; simp, fun _ => ⟨_, rfl, hg, fun j u hu => ?_⟩⟩
  have hj : j < d.size * k := by
    have := (List.getElem?_eq_some_iff.1 hu).1
    rw [flat_len enc k hk] at this
    simpa using this
  have hx := flat_any enc k hk hk0 d j hj
  rw [hx] at hu
  injection hu with hu
  rw [add_zero_at, ← hu]
  exact (h j (by rw [size_flatK]; exact hj)).1
end
theorem sqC_len (x : Sq) : (sqC x).length = 5 := rfl
theorem enC_len (x : En) : (enC x).length = 7 := rfl
theorem sqC_one (x : Sq) : ∀ v ∈ sqC x, v.oneCell' = true := by
  intro v hv
  simp [sqC] at hv
  rcases hv with rfl | rfl | rfl | rfl | rfl <;> rfl
theorem enC_one (x : En) : ∀ v ∈ enC x, v.oneCell' = true := by
  intro v hv
  simp [enC] at hv
  rcases hv with rfl | rfl | rfl | rfl | rfl | rfl | rfl <;> rfl
theorem ins_size {α : Type} [Inhabited α] (lt : α → α → Bool) (d : Array α) : (insertionSort lt d 0 d.size).size = d.size := by
  rw [← Array.length_toList, ins_sort, sortR_len, Array.length_toList]

/-- the insertion sort at series, by their names. -/
theorem insn_any (blk cap a b : Nat) (d : Array Sq) (w : World) (hH : HoldsK sqC 5 w blk 0 d) (hblk : blk < w.heap.size) (hab : a ≤ b) (hb : b ≤ d.size) (hsz : d.size ≤ 1000) :
    Calls Tryz.prog 111 #[.slice (some ⟨blk, 0, none⟩) d.size cap, .int .i64 a, .int .i64 b, .func (.func 57) #[] #[]] w fun e w' =>
      e = .returned (.tuple #[]) ∧ GX blk w w' ∧ ((insertionSort (ltOf cfN) d a b).size = d.size → HoldsK sqC 5 w' blk 0 (insertionSort (ltOf cfN) d a b)) := by
  have h := AnyQ.insertionSortCmpFunc laysS 5 Tryz.isAgg30 Tryz.sizeOf30 sqC sqC_len sqC_one cfN 57 #[] blk 0 cap a b d w (enters_of Tryz.func57 (by kernel_rfl) rfl)
    (fun m os dk _ x y => cmpn_any x y _) hH hblk hab hb (by omega)
  refine h.mono fun e w' ⟨he, n, os, hw⟩ => ⟨he, ?_, fun hs => ?_⟩
  · rw [hw]; exact gx_sort ..
  · rw [hw]; exact holdsK_sortWorldK_c sqC 5 w blk 0 d _ n os hH hblk hs
/-- the insertion sort at entries. -/
theorem inse_any (B : Nat) (least : Bool) (blk cap a b : Nat) (d : Array En) (w : World) (hB : w.cell? ⟨B, 3, none⟩ = some (.bool least)) (hlt : B < w.heap.size) (hne : B ≠ blk) (hH : HoldsK enC 7 w blk 0 d) (hblk : blk < w.heap.size) (hab : a ≤ b) (hb : b ≤ d.size) (hsz : d.size ≤ 1000) :
    Calls Tryz.prog 131 #[.slice (some ⟨blk, 0, none⟩) d.size cap, .int .i64 a, .int .i64 b, .func (.func 91) #[] #[.pointer (some ⟨B, 0, none⟩)]] w fun e w' =>
      e = .returned (.tuple #[]) ∧ GX blk w w' ∧ ((insertionSort (ltOf (cfE least)) d a b).size = d.size → HoldsK enC 7 w' blk 0 (insertionSort (ltOf (cfE least)) d a b)) := by
  have h := AnyQ.insertionSortCmpFunc laysE 7 Tryz.isAgg128 Tryz.sizeOf128 enC enC_len enC_one (cfE least) 91 #[.pointer (some ⟨B, 0, none⟩)] blk 0 cap a b d w (enters_of Tryz.func91 (by kernel_rfl) rfl)
    (fun m os dk _ x y => by
      have hx := gx_sort enC 7 w blk 0 m dk os
      exact cmpe_any B least x y _ ((hx.cell (p := ⟨B, 3, none⟩) hlt hne).trans hB) (Nat.lt_of_lt_of_le hlt hx.size)) hH hblk hab hb (by omega)
  refine h.mono fun e w' ⟨he, n, os, hw⟩ => ⟨he, ?_, fun hs => ?_⟩
  · rw [hw]; exact gx_sort ..
  · rw [hw]; exact holdsK_sortWorldK_c enC 7 w blk 0 d _ n os hH hblk hs
end Go.Proofs.YtbdichmkgcngbaaGreat
