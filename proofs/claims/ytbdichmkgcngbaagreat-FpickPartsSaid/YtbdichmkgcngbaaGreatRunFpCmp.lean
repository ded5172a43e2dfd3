/- The library's insertion sort over comparing functions, at series and at entries: the closures' contracts, and what the sort leaves in the row. · The library's stable sort at no more than 20 series, at no more than 20 entries: one block of its insertion sort. -/
import Derived.Test.YtbdichmkgcngbaaGreatRunFpPred
import Derived.Test.YtbdichmkgcngbaaGreatFpShelf
import Derived.Test.YtbdichmkgcngbaaGreatRunFxSqM
import Derived.Shelf.SlSortCmp.InsertionK
namespace Go.Proofs.YtbdichmkgcngbaaGreat
open Go.RowKit Go.Sort Go.Shelf
set_option linter.unusedVariables false
set_option linter.unusedSimpArgs false

theorem bytes_lt : ∀ (l m : List UInt8), decide (Lib.compareBytes l m < 0) = Op.bytesLess l m
 | [], [] => rfl
 | [], _ :: _ => rfl
 | _ :: _, [] => rfl
 | a :: x, b :: y => by
  unfold Lib.compareBytes Op.bytesLess
  by_cases h : a < b
  ·
   simp [h]
  ·
   by_cases h' : b < a
   ·
    have hne : a ≠ b := fun e => by subst e; exact h h'
    simp [h, h', hne]
   ·
    have he : a = b := UInt8.le_antisymm (UInt8.not_lt.1 h') (UInt8.not_lt.1 h)
    subst he
    simp [bytes_lt x y]
theorem cmpI_eq (a b : Int) : cmpI a b = Lib.compareInt a b := rfl

instance : Inhabited Sq := ⟨⟨⟨⟨#[]⟩, 0, 0, [], 0⟩, none, 0⟩⟩
instance : Inhabited Vl := ⟨⟨false, 0⟩⟩
/-- a series' cells. -/
def sqC (x : Sq) : List Value := [.string x.s.name, .int .i64 x.s.start, .int .i64 x.s.step, .slice x.A x.s.vals.length x.c, .int .i64 x.s.cons]
/-- An entry: a series, and what it goes by. -/
abbrev En := Sq × Vl
def enC (x : En) : List Value := [.string x.1.s.name, .int .i64 x.1.s.start, .int .i64 x.1.s.step, .slice x.1.A x.1.s.vals.length x.1.c, .int .i64 x.1.s.cons, .bool x.2.ok, .int .i64 x.2.n]
def cfN (x y : Sq) : Int := Lib.compareBytes x.s.name.data.toList y.s.name.data.toList
def cfE (least : Bool) (x y : En) : Int := cmpV least x.2 y.2
theorem cfN_lt (x y : Sq) : ltOf cfN x y = ltN x.s.name y.s.name := by
 unfold ltOf cfN ltN
 rw [bytes_lt, ByteArray.toList_eq, ByteArray.toList_eq]
theorem cfE_lt (least : Bool) (x y : En) : ltOf (cfE least) x y = ltV least x.2 y.2 := cmpV_lt least x.2 y.2

set_option maxHeartbeats 1600000 in
/-- the closure that compares names. -/
theorem cmpn_any (x y : Sq) (W : World) : Calls Tryz.prog 57 #[.agg (sqC x).toArray, .agg (sqC y).toArray] W fun e w' => e = .returned (.int .i64 (cfN x y)) ∧ ∃ q os', w' = grow (W.drewN q) os' := by
 unfold sqC
 have hcon := fun W' => Tryz.strings_Compare x.s.name y.s.name W'
 change ∀ W', Calls Tryz.prog 58 _ _ _ at hcon
 unfold cfN
 generalize Lib.compareBytes x.s.name.data.toList y.s.name.data.toList = r at hcon ⊢
 go_enter Tryz.func57, Tryz.ntmps57
 go_wp2_with (go_at_call 58; refine (hcon _).mono ?_; rintro e w' ⟨rfl, rfl⟩)
 go_ret
 exact ⟨rfl, 0, _, by rw [alloc_eq_grow, alloc_eq_grow, grow_grow]; rfl⟩

set_option maxHeartbeats 3200000 in
/-- the closure that compares what entries go by. -/
theorem cmpe_any (B : Nat) (least : Bool) (x y : En) (W : World) (hB : W.cell? ⟨B, 3, none⟩ = some (.bool least)) (hlt : B < W.heap.size) : Calls Tryz.prog 91 #[.agg (enC x).toArray, .agg (enC y).toArray, .pointer (some ⟨B, 0, none⟩)] W fun e w' => e = .returned (.int .i64 (cfE least x y)) ∧ ∃ q os', w' = grow (W.drewN q) os' := by
 have hcon := fun a b W' => Tryz.cmp_Compare_int a b W'
 change ∀ a b W', Calls Tryz.prog 92 _ _ _ at hcon
 obtain ⟨sx, ⟨xo, xn⟩⟩ := x
 obtain ⟨sy, ⟨yo, yn⟩⟩ := y
 unfold enC cfE
 simp only
 cases xo <;> cases yo <;> cases least
 all_goals
  simp only [cmpV, cond_true, cond_false, cmpI_eq]
 case true.true.true =>
  have hc := hcon xn yn
  generalize Lib.compareInt xn yn = r at hc ⊢
  clear hcon
  go_enter Tryz.func91, Tryz.ntmps91
  go_wp2_with (go_at_call 92; refine (hc _).mono ?_; rintro e w' ⟨rfl, rfl⟩)
  go_ret
  exact ⟨rfl, 0, _, by rw [alloc_eq_grow, alloc_eq_grow, grow_grow]; rfl⟩
 case true.true.false =>
  have hc := hcon yn xn
  generalize Lib.compareInt yn xn = r at hc ⊢
  clear hcon
  go_enter Tryz.func91, Tryz.ntmps91
  go_wp2_with (go_at_call 92; refine (hc _).mono ?_; rintro e w' ⟨rfl, rfl⟩)
  go_ret
  exact ⟨rfl, 0, _, by rw [alloc_eq_grow, alloc_eq_grow, grow_grow]; rfl⟩
 all_goals
  clear hcon
  go_enter Tryz.func91, Tryz.ntmps91
  go_wp2
  go_ret
  exact ⟨rfl, 0, _, by rw [alloc_eq_grow, alloc_eq_grow, grow_grow]; rfl⟩

/-- the library's insertion sort at this program's numbers. -/
def renS : Ren := ⟨fun | 20 => 111 | n => n, fun | 0 => 0 | 3 => 3 | 4 => 4 | 22 => 24 | 24 => 30 | 25 => 89 | n => n, fun | n => n⟩
theorem laysS : SlLaysF0.n20 Tryz.prog renS := {
 mixed := by kernel_rfl
 f20 := ⟨Tryz.f111.name, rfl, Tryz.func111.trans (congrArg some (by kernel_rfl))⟩
 t0 := Tryz.underlying0
 a0 := Tryz.isAgg0
 z0 := Tryz.sizeOf0
 v0 := Tryz.zeroValue0
 t3 := Tryz.underlying3
 a3 := Tryz.isAgg3
 z3 := Tryz.sizeOf3
 v3 := Tryz.zeroValue3
 t4 := Tryz.underlying4
 a4 := Tryz.isAgg4
 z4 := Tryz.sizeOf4
 v4 := Tryz.zeroValue4
 t22 := Tryz.underlying24
 a22 := Tryz.isAgg24
 z22 := Tryz.sizeOf24
 v22 := Tryz.zeroValue24
 t25 := Tryz.underlying89
 a25 := Tryz.isAgg89
 z25 := Tryz.sizeOf89
 v25 := Tryz.zeroValue89 }
/-- the library's insertion sort at this program's numbers. -/
def renE : Ren := ⟨fun | 20 => 131 | n => n, fun | 0 => 0 | 3 => 3 | 4 => 4 | 22 => 126 | 24 => 128 | 25 => 131 | n => n, fun | n => n⟩
theorem laysE : SlLaysF0.n20 Tryz.prog renE := {
 mixed := by kernel_rfl
 f20 := ⟨Tryz.f131.name, rfl, Tryz.func131.trans (congrArg some (by kernel_rfl))⟩
 t0 := Tryz.underlying0
 a0 := Tryz.isAgg0
 z0 := Tryz.sizeOf0
 v0 := Tryz.zeroValue0
 t3 := Tryz.underlying3
 a3 := Tryz.isAgg3
 z3 := Tryz.sizeOf3
 v3 := Tryz.zeroValue3
 t4 := Tryz.underlying4
 a4 := Tryz.isAgg4
 z4 := Tryz.sizeOf4
 v4 := Tryz.zeroValue4
 t22 := Tryz.underlying126
 a22 := Tryz.isAgg126
 z22 := Tryz.sizeOf126
 v22 := Tryz.zeroValue126
 t25 := Tryz.underlying131
 a25 := Tryz.isAgg131
 z25 := Tryz.sizeOf131
 v25 := Tryz.zeroValue131 }

theorem flat_at {α : Type} (enc : α → List Value) (k : Nat) (hk : ∀ x, (enc x).length = k) (hk0 : 0 < k) : ∀ (L : List α) (i : Nat) (h : i < L.length), ∀ j, j < k → (L.flatMap enc)[i * k + j]? = (enc L[i])[j]?
 | [], i, h, j, hj => by simp at h
 | x :: L, 0, h, j, hj => by
  rw [List.flatMap_cons, Nat.zero_mul, Nat.zero_add, List.getElem?_append_left (by rw [hk]; exact hj)]; rfl
 | x :: L, i + 1, h, j, hj => by
  rw [List.flatMap_cons, List.getElem?_append_right (by rw [hk, Nat.add_mul]; omega), hk, show (i + 1) * k + j - k = i * k + j by rw [Nat.add_mul]; omega, flat_at enc k hk hk0 L i (by simpa using h) j hj]; rfl
theorem flat_len {α : Type} (enc : α → List Value) (k : Nat) (hk : ∀ x, (enc x).length = k) (L : List α) : (L.flatMap enc).length = L.length * k := by
 induction L with
 | nil => simp
 | cons x L ih => rw [List.flatMap_cons, List.length_append, ih, hk, List.length_cons, Nat.add_mul]; omega
section
variable {α : Type} [Inhabited α] (enc : α → List Value) (k : Nat)
theorem gx_sort (w : World) (blk off m : Nat) (dk : Array α) (os : Array Obj) : GX blk w (sortWorldK enc k w blk off m dk os) := by
 refine ⟨rfl, rfl, rfl, size_sortWorldK_c enc k w blk off m dk os, fun i hi hn => ?_⟩
 have e : (sortWorldK enc k w blk off m dk os).heap = (putRowK enc k (Sort.ahead w m) blk off dk).heap ++ os := rfl
 have hs : i < (putRowK enc k (Sort.ahead w m) blk off dk).heap.size := by rw [size_putRowK]; exact hi
 rw [e, Array.getElem?_append_left hs]
 show (Array.modify w.heap blk _)[i]? = _
 rw [Array.getElem?_modify, if_neg (fun h => hn h.symm)]
theorem flat_any (hk : ∀ x, (enc x).length = k) (hk0 : 0 < k) (d : Array α) (t : Nat) (h : t < d.size * k) : (d.toList.flatMap enc)[t]? = some (flatK enc k d)[t]! := by
 have hd : t / k < d.size := (Nat.div_lt_iff_lt_mul hk0).2 h
 have hm : t % k < k := Nat.mod_lt _ hk0
 have e := flat_at enc k hk hk0 d.toList (t / k) (by simpa using hd) (t % k) hm
 rw [Nat.div_add_mod'] at e
 rw [e, get_flatK enc k d t h]
 have hx : d[t / k]! = d[t / k] := getElem!_pos d (t / k) hd
 rw [hx, Array.getElem_toList]
 have hl : t % k < (enc d[t / k]).length := by rw [hk]; exact hm
 rw [List.getElem?_eq_getElem hl, getElem!_pos (enc d[t / k]) (t % k) hl]
theorem add_zero_at (g j : Nat) : (⟨g, 0, none⟩ : Addr).add j = ⟨g, 0 + j, none⟩ := by
 unfold Addr.add; split
 ·
  rename_i h; subst h; rfl
 ·
  rfl
theorem holds_own (hk : ∀ x, (enc x).length = k) (hk0 : 0 < k) {w : World} {base g n c : Nat} {e : TypeId} {d : Array α} (h : w.ownsRow base e k (.slice (some ⟨g, 0, none⟩) n c) n (d.toList.flatMap enc)) (hn : d.size = n) : HoldsK enc k w g 0 d ∧ (0 < n → g < w.heap.size ∧ base ≤ g) := by
 refine ⟨fun j hj => ?_, fun h0 => ?_⟩
 ·
  rw [size_flatK] at hj
  have hx := flat_any enc k hk hk0 d j hj
  obtain ⟨_, ⟨hv, _⟩ | ⟨g', cap, cur, hv, _, hh, _⟩⟩ := id h
  ·
   cases hv
  ·
   injection hv with h1
   injection h1 with h1
   injection h1 with h1
   subst h1
   refine ⟨?_, frozen_of_row w g (0 + j) _ _ hh⟩
   have hc := h.cells (g := g) rfl j _ hx
   rw [add_zero_at] at hc
   exact hc
 ·
  obtain ⟨_, ⟨hv, h1⟩ | ⟨g', cap, cur, hv, hb, hh, _⟩⟩ := h
  ·
   cases hv
  ·
   injection hv with h1
   injection h1 with h1
   injection h1 with h1
   subst h1
   exact ⟨(Array.getElem?_eq_some_iff.1 hh).1, hb⟩
theorem rd_holds (hk : ∀ x, (enc x).length = k) (hk0 : 0 < k) {w : World} {g n : Nat} {d : Array α} (h : HoldsK enc k w g 0 d) (hg : g < w.heap.size) (hn : d.size = n) : Rd w k (some ⟨g, 0, none⟩) n (d.toList.flatMap enc) := by
 refine ⟨by rw [flat_len enc k hk, ← hn]; simp, fun _ => ⟨_, rfl, hg, fun j u hu => ?_⟩⟩
 have hj : j < d.size * k := by
  have := (List.getElem?_eq_some_iff.1 hu).1
  rw [flat_len enc k hk] at this
  simpa using this
 have hx := flat_any enc k hk hk0 d j hj
 rw [hx] at hu
 injection hu with hu
 rw [add_zero_at, ← hu]
 exact (h j (by rw [size_flatK]; exact hj)).1
end
theorem sqC_len (x : Sq) : (sqC x).length = 5 := rfl
theorem enC_len (x : En) : (enC x).length = 7 := rfl
theorem sqC_one (x : Sq) : ∀ v ∈ sqC x, v.oneCell' = true := by
 intro v hv
 simp [sqC] at hv
 rcases hv with rfl | rfl | rfl | rfl | rfl <;> rfl
theorem enC_one (x : En) : ∀ v ∈ enC x, v.oneCell' = true := by
 intro v hv
 simp [enC] at hv
 rcases hv with rfl | rfl | rfl | rfl | rfl | rfl | rfl <;> rfl
theorem ins_size {α : Type} [Inhabited α] (lt : α → α → Bool) (d : Array α) : (insertionSort lt d 0 d.size).size = d.size := by
 rw [← Array.length_toList, ins_sort, sortR_len, Array.length_toList]

/-- the insertion sort at series, by their names. -/
theorem insn_any (blk cap a b : Nat) (d : Array Sq) (w : World) (hH : HoldsK sqC 5 w blk 0 d) (hblk : blk < w.heap.size) (hab : a ≤ b) (hb : b ≤ d.size) (hsz : d.size ≤ 1000) :
  Calls Tryz.prog 111 #[.slice (some ⟨blk, 0, none⟩) d.size cap, .int .i64 a, .int .i64 b, .func (.func 57) #[] #[]] w fun e w' =>
   e = .returned (.tuple #[]) ∧ GX blk w w' ∧ ((insertionSort (ltOf cfN) d a b).size = d.size → HoldsK sqC 5 w' blk 0 (insertionSort (ltOf cfN) d a b)) := by
 have h := AnyQ.insertionSortCmpFunc laysS 5 Tryz.isAgg30 Tryz.sizeOf30 sqC sqC_len sqC_one cfN 57 #[] blk 0 cap a b d w (enters_of Tryz.func57 (by kernel_rfl) rfl)
  (fun m os dk _ x y => cmpn_any x y _) hH hblk hab hb (by omega)
 refine h.mono fun e w' ⟨he, n, os, hw⟩ => ⟨he, ?_, fun hs => ?_⟩
 ·
  rw [hw]; exact gx_sort ..
 ·
  rw [hw]; exact holdsK_sortWorldK_c sqC 5 w blk 0 d _ n os hH hblk hs
/-- the insertion sort at entries. -/
theorem inse_any (B : Nat) (least : Bool) (blk cap a b : Nat) (d : Array En) (w : World) (hB : w.cell? ⟨B, 3, none⟩ = some (.bool least)) (hlt : B < w.heap.size) (hne : B ≠ blk) (hH : HoldsK enC 7 w blk 0 d) (hblk : blk < w.heap.size) (hab : a ≤ b) (hb : b ≤ d.size) (hsz : d.size ≤ 1000) :
  Calls Tryz.prog 131 #[.slice (some ⟨blk, 0, none⟩) d.size cap, .int .i64 a, .int .i64 b, .func (.func 91) #[] #[.pointer (some ⟨B, 0, none⟩)]] w fun e w' =>
   e = .returned (.tuple #[]) ∧ GX blk w w' ∧ ((insertionSort (ltOf (cfE least)) d a b).size = d.size → HoldsK enC 7 w' blk 0 (insertionSort (ltOf (cfE least)) d a b)) := by
 have h := AnyQ.insertionSortCmpFunc laysE 7 Tryz.isAgg128 Tryz.sizeOf128 enC enC_len enC_one (cfE least) 91 #[.pointer (some ⟨B, 0, none⟩)] blk 0 cap a b d w (enters_of Tryz.func91 (by kernel_rfl) rfl)
  (fun m os dk _ x y => by
   have hx := gx_sort enC 7 w blk 0 m dk os
   exact cmpe_any B least x y _ ((hx.cell (p := ⟨B, 3, none⟩) hlt hne).trans hB) (Nat.lt_of_lt_of_le hlt hx.size)) hH hblk hab hb (by omega)
 refine h.mono fun e w' ⟨he, n, os, hw⟩ => ⟨he, ?_, fun hs => ?_⟩
 ·
  rw [hw]; exact gx_sort ..
 ·
  rw [hw]; exact holdsK_sortWorldK_c enC 7 w blk 0 d _ n os hH hblk hs
end Go.Proofs.YtbdichmkgcngbaaGreat
namespace Go.Proofs.YtbdichmkgcngbaaGreat
open Go.RowKit Go.Sort Go.Shelf
set_option linter.unusedVariables false
set_option linter.unusedSimpArgs false

/-- nothing to sort. -/
theorem inszn_any (A : Option Addr) (c : Nat) (f : Value) (w : World) :
  Calls Tryz.prog 111 #[.slice A 0 c, .int .i64 0, .int .i64 0, f] w fun e w' => e = .returned (.tuple #[]) ∧ w = w' := by
 go_enter Tryz.func111, Tryz.ntmps111
 go_wp2
 go_loopw [8] (fun i wr => i = .int .i64 1 ∧ wr = w) (fun _ _ => 0)
 case atStart => exact ⟨rfl, rfl⟩
 case round =>
  obtain ⟨rfl, rfl⟩ := hrel
  go_wp2
  go_end0
  exact ⟨rfl, rfl⟩
set_option maxRecDepth 100000 in
set_option maxHeartbeats 1600000 in
theorem stabzn_any (A : Option Addr) (c : Nat) (f : Value) (w : World) :
  Calls Tryz.prog 88 #[.slice A 0 c, .int .i64 0, f] w fun e w' => e = .returned (.tuple #[]) ∧ w = w' := by
 go_enter Tryz.func88, Tryz.ntmps88
 go_wp2
 go_loopw [7, 8] (fun a b wr => a = .int .i64 0 ∧ b = .int .i64 20 ∧ wr = w) (fun _ _ _ => 0)
 case atStart => exact ⟨rfl, rfl, rfl⟩
 case round =>
  obtain ⟨rfl, rfl, rfl⟩ := hrel
  go_wp2_with fail
  refine (inszn_any A c f _).mono ?_; rintro e w1 ⟨rfl, rfl⟩
  go_wp2
  go_loopw [6] (fun a wr2 => a = .int .i64 20 ∧ wr2 = wr) (fun _ _ => 0)
  case atStart => exact ⟨rfl, rfl⟩
  case round =>
   obtain ⟨rfl, rfl⟩ := hrel
   go_wp2
   go_end0
   exact ⟨rfl, rfl⟩
set_option maxRecDepth 100000 in
set_option maxHeartbeats 3200000 in
theorem stabn_any (blk cap : Nat) (d : Array Sq) (w : World) (hH : HoldsK sqC 5 w blk 0 d) (hblk : blk < w.heap.size) (h20 : d.size ≤ 20) :
  Calls Tryz.prog 88 #[.slice (some ⟨blk, 0, none⟩) d.size cap, .int .i64 d.size, .func (.func 57) #[] #[]] w fun e w' =>
   e = .returned (.tuple #[]) ∧ GX blk w w' ∧ HoldsK sqC 5 w' blk 0 (insertionSort (ltOf cfN) d 0 d.size) := by
 have hs := ins_size (ltOf cfN) d
 by_cases hn : d.size = 20
 ·
  have h1 : (20 : Int) ≤ (d.size : Int) := by omega
  have h2 : ¬ (40 : Int) ≤ (d.size : Int) := by omega
  have h3 : ¬ (20 : Int) < (d.size : Int) := by omega
  have Q0 : Calls Tryz.prog 111 #[.slice (some ⟨blk, 0, none⟩) d.size cap, .int .i64 0, .int .i64 20, .func (.func 57) #[] #[]] w fun e w' =>
   e = .returned (.tuple #[]) ∧ GX blk w w' ∧ HoldsK sqC 5 w' blk 0 (insertionSort (ltOf cfN) d 0 d.size) := by
   have h := insn_any blk cap 0 d.size d w hH hblk (Nat.zero_le _) (Nat.le_refl _) (by omega)
   have e20 : (d.size : Int) = 20 := by omega
   have h' : Calls Tryz.prog 111 #[.slice (some ⟨blk, 0, none⟩) d.size cap, .int .i64 0, .int .i64 (d.size : Int), .func (.func 57) #[] #[]] w _ := h
   rw [e20] at h'
   exact h'.mono fun e w' ⟨he, hg, hh⟩ => ⟨he, hg, hh hs⟩
  obtain ⟨D, hD⟩ : ∃ D, insertionSort (ltOf cfN) d 0 d.size = D := ⟨_, rfl⟩
  rw [hD] at Q0 hs ⊢
  have Q2 : Hid (∀ wr, GX blk w wr → HoldsK sqC 5 wr blk 0 D → Calls Tryz.prog 111 #[.slice (some ⟨blk, 0, none⟩) d.size cap, .int .i64 20, .int .i64 (d.size : Int), .func (.func 57) #[] #[]] wr fun e w' =>
   e = .returned (.tuple #[]) ∧ GX blk wr w' ∧ HoldsK sqC 5 w' blk 0 D) := Lib.hid (fun wr hgx hh => by
   have h := insn_any blk cap 20 D.size D wr hh (Nat.lt_of_lt_of_le hblk hgx.size) (by omega) (Nat.le_refl _) (by omega)
   have e20 : D.size = 20 := by omega
   rw [e20, ins_none, hn.symm] at h
   have e21 : (20 : Int) = (d.size : Int) := by omega
   rw [e21]
   exact h.mono fun e w' ⟨he, hg, hh⟩ => ⟨he, hg, hh (by omega)⟩)
  have Q0 := Lib.hid Q0
  have HD := Lib.hid hD
  clear hs hn hD
  go_enter Tryz.func88, Tryz.ntmps88
  go_wp2
  go_loopw [7, 8] (fun a b wr => (a = .int .i64 0 ∧ b = .int .i64 20 ∧ wr = w) ∨ (a = .int .i64 20 ∧ b = .int .i64 40 ∧ GX blk w wr ∧ HoldsK sqC 5 wr blk 0 D)) (fun _ b _ => 100 - (intOf b).toNat)
  case atStart => exact .inl ⟨rfl, rfl, rfl⟩
  case round =>
   rcases hrel with ⟨rfl, rfl, rfl⟩ | ⟨rfl, rfl, hgx, hh⟩
   ·
    go_wp2_with fail
    refine Q0.out.mono ?_; rintro e w1 ⟨rfl, hgx, hh⟩
    go_wp2
    go_roundw
    case rel => exact .inr ⟨rfl, rfl, hgx, hh⟩
    case measure => simp [intOf]
   ·
    go_wp2_with fail
    refine (Q2.out _ hgx hh).mono ?_; rintro e w1 ⟨rfl, hgx1, hh1⟩
    have hgx2 := hgx.trans hgx1
    go_wp2
    go_loopw [6] (fun a wr2 => a = .int .i64 20 ∧ wr2 = w1) (fun _ _ => 0)
    case atStart => exact ⟨rfl, rfl⟩
    case round =>
     obtain ⟨rfl, rfl⟩ := hrel
     go_wp2
     go_end0
     exact ⟨rfl, hgx2, hh1⟩
 ·
  have h1 : ¬ (20 : Int) ≤ (d.size : Int) := by omega
  have h3 : ¬ (20 : Int) < (d.size : Int) := by omega
  have Q0 : Calls Tryz.prog 111 #[.slice (some ⟨blk, 0, none⟩) d.size cap, .int .i64 0, .int .i64 (d.size : Int), .func (.func 57) #[] #[]] w fun e w' =>
   e = .returned (.tuple #[]) ∧ GX blk w w' ∧ HoldsK sqC 5 w' blk 0 (insertionSort (ltOf cfN) d 0 d.size) := by
   have h := insn_any blk cap 0 d.size d w hH hblk (Nat.zero_le _) (Nat.le_refl _) (by omega)
   exact h.mono fun e w' ⟨he, hg, hh⟩ => ⟨he, hg, hh hs⟩
  generalize insertionSort (ltOf cfN) d 0 d.size = D at Q0 hs ⊢
  have Q0 := Lib.hid Q0
  clear hs hn
  go_enter Tryz.func88, Tryz.ntmps88
  go_wp2
  go_loopw [7, 8] (fun a b wr => a = .int .i64 0 ∧ b = .int .i64 20 ∧ wr = w) (fun _ _ _ => 0)
  case atStart => exact ⟨rfl, rfl, rfl⟩
  case round =>
   obtain ⟨rfl, rfl, rfl⟩ := hrel
   go_wp2_with fail
   refine Q0.out.mono ?_; rintro e w1 ⟨rfl, hgx, hh⟩
   go_wp2
   go_loopw [6] (fun a wr2 => a = .int .i64 20 ∧ wr2 = w1) (fun _ _ => 0)
   case atStart => exact ⟨rfl, rfl⟩
   case round =>
    obtain ⟨rfl, rfl⟩ := hrel
    go_wp2
    go_end0
    exact ⟨rfl, hgx, hh⟩

set_option maxHeartbeats 1600000 in
/-- slices.SortStableFunc. -/
theorem sortn_any (base c : Nat) (A : Option Addr) (L : List Sq) (wb w : World) (h20 : L.length ≤ 20) (hown : w.ownsRow base 30 5 (.slice A L.length c) L.length (L.flatMap sqC)) (hg : Gr wb w) (hb : wb.heap.size ≤ base) :
  Calls Tryz.prog 56 #[.slice A L.length c, .func (.func 57) #[] #[]] w fun e w' =>
   e = .returned (.tuple #[]) ∧ Gr wb w' ∧ Rd w' 5 A L.length ((sortR (fun a b => ltN a.s.name b.s.name) L).flatMap sqC) := by
 rcases Nat.eq_zero_or_pos L.length with h0 | h0
 ·
  have hL : L = [] := List.eq_nil_of_length_eq_zero h0
  subst hL
  show Calls Tryz.prog 56 #[.slice A 0 c, .func (.func 57) #[] #[]] w _
  clear hown h20 h0
  go_enter Tryz.func56, Tryz.ntmps56
  go_wp2_with fail
  refine (stabzn_any A c _ _).mono ?_; rintro e w1 ⟨rfl, rfl⟩
  go_wp2
  go_end0
  exact ⟨rfl, hg, Rd.nil _ _ _⟩
 ·
  obtain ⟨g, hgA⟩ : ∃ g, A = some ⟨g, 0, none⟩ := by
   obtain ⟨_, ⟨hv, h1⟩ | ⟨g', cap, cur, hv, _⟩⟩ := id hown
   ·
    omega
   ·
    injection hv with h1
    exact ⟨g', h1⟩
  subst hgA
  obtain ⟨hH, hgb⟩ := holds_own sqC 5 sqC_len (by decide) (d := L.toArray) hown (by simp)
  obtain ⟨hblk, hbase⟩ := hgb h0
  have hs := stabn_any g c L.toArray w hH hblk (by simpa using h20)
  have hi := ins_sort (ltOf cfN) L.toArray
  have hz := ins_size (ltOf cfN) L.toArray
  have hlt : ltOf cfN = (fun a b => ltN a.s.name b.s.name) := by funext x y; exact cfN_lt x y
  simp only [List.size_toArray] at hs hi hz
  rw [hlt] at hs hi hz
  have HI := Lib.hid hi
  have HZ := Lib.hid hz
  have HS := Lib.hid hs
  clear hs hi hz hlt hown hH h20
  go_enter Tryz.func56, Tryz.ntmps56
  go_wp2_with fail
  refine HS.out.mono ?_; rintro e w1 ⟨rfl, hgx, hh⟩
  have hgr := hgx.gr hg (by omega)
  have hrd := rd_holds sqC 5 sqC_len (by decide) hh (Nat.lt_of_lt_of_le hblk hgx.size) HZ.out
  rw [HI.out] at hrd
  go_wp2
  go_end0
  exact ⟨rfl, hgr, hrd⟩

/-- nothing to sort. -/
theorem insze_any (A : Option Addr) (c : Nat) (f : Value) (w : World) :
  Calls Tryz.prog 131 #[.slice A 0 c, .int .i64 0, .int .i64 0, f] w fun e w' => e = .returned (.tuple #[]) ∧ w = w' := by
 go_enter Tryz.func131, Tryz.ntmps131
 go_wp2
 go_loopw [8] (fun i wr => i = .int .i64 1 ∧ wr = w) (fun _ _ => 0)
 case atStart => exact ⟨rfl, rfl⟩
 case round =>
  obtain ⟨rfl, rfl⟩ := hrel
  go_wp2
  go_end0
  exact ⟨rfl, rfl⟩
set_option maxRecDepth 100000 in
set_option maxHeartbeats 1600000 in
theorem stabze_any (A : Option Addr) (c : Nat) (f : Value) (w : World) :
  Calls Tryz.prog 114 #[.slice A 0 c, .int .i64 0, f] w fun e w' => e = .returned (.tuple #[]) ∧ w = w' := by
 go_enter Tryz.func114, Tryz.ntmps114
 go_wp2
 go_loopw [7, 8] (fun a b wr => a = .int .i64 0 ∧ b = .int .i64 20 ∧ wr = w) (fun _ _ _ => 0)
 case atStart => exact ⟨rfl, rfl, rfl⟩
 case round =>
  obtain ⟨rfl, rfl, rfl⟩ := hrel
  go_wp2_with fail
  refine (insze_any A c f _).mono ?_; rintro e w1 ⟨rfl, rfl⟩
  go_wp2
  go_loopw [6] (fun a wr2 => a = .int .i64 20 ∧ wr2 = wr) (fun _ _ => 0)
  case atStart => exact ⟨rfl, rfl⟩
  case round =>
   obtain ⟨rfl, rfl⟩ := hrel
   go_wp2
   go_end0
   exact ⟨rfl, rfl⟩
set_option maxRecDepth 100000 in
set_option maxHeartbeats 3200000 in
theorem stabe_any (B : Nat) (least : Bool) (blk cap : Nat) (d : Array En) (w : World) (hB : w.cell? ⟨B, 3, none⟩ = some (.bool least)) (hlt : B < w.heap.size) (hne : B ≠ blk) (hH : HoldsK enC 7 w blk 0 d) (hblk : blk < w.heap.size) (h20 : d.size ≤ 20) :
  Calls Tryz.prog 114 #[.slice (some ⟨blk, 0, none⟩) d.size cap, .int .i64 d.size, .func (.func 91) #[] #[.pointer (some ⟨B, 0, none⟩)]] w fun e w' =>
   e = .returned (.tuple #[]) ∧ GX blk w w' ∧ HoldsK enC 7 w' blk 0 (insertionSort (ltOf (cfE least)) d 0 d.size) := by
 have hs := ins_size (ltOf (cfE least)) d
 by_cases hn : d.size = 20
 ·
  have h1 : (20 : Int) ≤ (d.size : Int) := by omega
  have h2 : ¬ (40 : Int) ≤ (d.size : Int) := by omega
  have h3 : ¬ (20 : Int) < (d.size : Int) := by omega
  have Q0 : Calls Tryz.prog 131 #[.slice (some ⟨blk, 0, none⟩) d.size cap, .int .i64 0, .int .i64 20, .func (.func 91) #[] #[.pointer (some ⟨B, 0, none⟩)]] w fun e w' =>
   e = .returned (.tuple #[]) ∧ GX blk w w' ∧ HoldsK enC 7 w' blk 0 (insertionSort (ltOf (cfE least)) d 0 d.size) := by
   have h := inse_any B least blk cap 0 d.size d w hB hlt hne hH hblk (Nat.zero_le _) (Nat.le_refl _) (by omega)
   have e20 : (d.size : Int) = 20 := by omega
   have h' : Calls Tryz.prog 131 #[.slice (some ⟨blk, 0, none⟩) d.size cap, .int .i64 0, .int .i64 (d.size : Int), .func (.func 91) #[] #[.pointer (some ⟨B, 0, none⟩)]] w _ := h
   rw [e20] at h'
   exact h'.mono fun e w' ⟨he, hg, hh⟩ => ⟨he, hg, hh hs⟩
  obtain ⟨D, hD⟩ : ∃ D, insertionSort (ltOf (cfE least)) d 0 d.size = D := ⟨_, rfl⟩
  rw [hD] at Q0 hs ⊢
  have Q2 : Hid (∀ wr, GX blk w wr → HoldsK enC 7 wr blk 0 D → Calls Tryz.prog 131 #[.slice (some ⟨blk, 0, none⟩) d.size cap, .int .i64 20, .int .i64 (d.size : Int), .func (.func 91) #[] #[.pointer (some ⟨B, 0, none⟩)]] wr fun e w' =>
   e = .returned (.tuple #[]) ∧ GX blk wr w' ∧ HoldsK enC 7 w' blk 0 D) := Lib.hid (fun wr hgx hh => by
   have h := inse_any B least blk cap 20 D.size D wr ((hgx.cell (p := ⟨B, 3, none⟩) hlt hne).trans hB) (Nat.lt_of_lt_of_le hlt hgx.size) hne hh (Nat.lt_of_lt_of_le hblk hgx.size) (by omega) (Nat.le_refl _) (by omega)
   have e20 : D.size = 20 := by omega
   rw [e20, ins_none, hn.symm] at h
   have e21 : (20 : Int) = (d.size : Int) := by omega
   rw [e21]
   exact h.mono fun e w' ⟨he, hg, hh⟩ => ⟨he, hg, hh (by omega)⟩)
  have Q0 := Lib.hid Q0
  have HD := Lib.hid hD
  clear hs hn hD
  go_enter Tryz.func114, Tryz.ntmps114
  go_wp2
  go_loopw [7, 8] (fun a b wr => (a = .int .i64 0 ∧ b = .int .i64 20 ∧ wr = w) ∨ (a = .int .i64 20 ∧ b = .int .i64 40 ∧ GX blk w wr ∧ HoldsK enC 7 wr blk 0 D)) (fun _ b _ => 100 - (intOf b).toNat)
  case atStart => exact .inl ⟨rfl, rfl, rfl⟩
  case round =>
   rcases hrel with ⟨rfl, rfl, rfl⟩ | ⟨rfl, rfl, hgx, hh⟩
   ·
    go_wp2_with fail
    refine Q0.out.mono ?_; rintro e w1 ⟨rfl, hgx, hh⟩
    go_wp2
    go_roundw
    case rel => exact .inr ⟨rfl, rfl, hgx, hh⟩
    case measure => simp [intOf]
   ·
    go_wp2_with fail
    refine (Q2.out _ hgx hh).mono ?_; rintro e w1 ⟨rfl, hgx1, hh1⟩
    have hgx2 := hgx.trans hgx1
    go_wp2
    go_loopw [6] (fun a wr2 => a = .int .i64 20 ∧ wr2 = w1) (fun _ _ => 0)
    case atStart => exact ⟨rfl, rfl⟩
    case round =>
     obtain ⟨rfl, rfl⟩ := hrel
     go_wp2
     go_end0
     exact ⟨rfl, hgx2, hh1⟩
 ·
  have h1 : ¬ (20 : Int) ≤ (d.size : Int) := by omega
  have h3 : ¬ (20 : Int) < (d.size : Int) := by omega
  have Q0 : Calls Tryz.prog 131 #[.slice (some ⟨blk, 0, none⟩) d.size cap, .int .i64 0, .int .i64 (d.size : Int), .func (.func 91) #[] #[.pointer (some ⟨B, 0, none⟩)]] w fun e w' =>
   e = .returned (.tuple #[]) ∧ GX blk w w' ∧ HoldsK enC 7 w' blk 0 (insertionSort (ltOf (cfE least)) d 0 d.size) := by
   have h := inse_any B least blk cap 0 d.size d w hB hlt hne hH hblk (Nat.zero_le _) (Nat.le_refl _) (by omega)
   exact h.mono fun e w' ⟨he, hg, hh⟩ => ⟨he, hg, hh hs⟩
  generalize insertionSort (ltOf (cfE least)) d 0 d.size = D at Q0 hs ⊢
  have Q0 := Lib.hid Q0
  clear hs hn
  go_enter Tryz.func114, Tryz.ntmps114
  go_wp2
  go_loopw [7, 8] (fun a b wr => a = .int .i64 0 ∧ b = .int .i64 20 ∧ wr = w) (fun _ _ _ => 0)
  case atStart => exact ⟨rfl, rfl, rfl⟩
  case round =>
   obtain ⟨rfl, rfl, rfl⟩ := hrel
   go_wp2_with fail
   refine Q0.out.mono ?_; rintro e w1 ⟨rfl, hgx, hh⟩
   go_wp2
   go_loopw [6] (fun a wr2 => a = .int .i64 20 ∧ wr2 = w1) (fun _ _ => 0)
   case atStart => exact ⟨rfl, rfl⟩
   case round =>
    obtain ⟨rfl, rfl⟩ := hrel
    go_wp2
    go_end0
    exact ⟨rfl, hgx, hh⟩

set_option maxHeartbeats 1600000 in
/-- slices.SortStableFunc. -/
theorem sorte_any (B : Nat) (least : Bool) (base c : Nat) (A : Option Addr) (L : List En) (wb w : World) (hB : wb.cell? ⟨B, 3, none⟩ = some (.bool least)) (hlt : B < wb.heap.size) (h20 : L.length ≤ 20) (hown : w.ownsRow base 128 7 (.slice A L.length c) L.length (L.flatMap enC)) (hg : Gr wb w) (hb : wb.heap.size ≤ base) :
  Calls Tryz.prog 90 #[.slice A L.length c, .func (.func 91) #[] #[.pointer (some ⟨B, 0, none⟩)]] w fun e w' =>
   e = .returned (.tuple #[]) ∧ Gr wb w' ∧ Rd w' 7 A L.length ((sortR (fun a b => ltV least a.2 b.2) L).flatMap enC) := by
 rcases Nat.eq_zero_or_pos L.length with h0 | h0
 ·
  have hL : L = [] := List.eq_nil_of_length_eq_zero h0
  subst hL
  show Calls Tryz.prog 90 #[.slice A 0 c, .func (.func 91) #[] #[.pointer (some ⟨B, 0, none⟩)]] w _
  clear hown h20 h0 hB hlt
  go_enter Tryz.func90, Tryz.ntmps90
  go_wp2_with fail
  refine (stabze_any A c _ _).mono ?_; rintro e w1 ⟨rfl, rfl⟩
  go_wp2
  go_end0
  exact ⟨rfl, hg, Rd.nil _ _ _⟩
 ·
  obtain ⟨g, hgA⟩ : ∃ g, A = some ⟨g, 0, none⟩ := by
   obtain ⟨_, ⟨hv, h1⟩ | ⟨g', cap, cur, hv, _⟩⟩ := id hown
   ·
    omega
   ·
    injection hv with h1
    exact ⟨g', h1⟩
  subst hgA
  obtain ⟨hH, hgb⟩ := holds_own enC 7 enC_len (by decide) (d := L.toArray) hown (by simp)
  obtain ⟨hblk, hbase⟩ := hgb h0
  have hs := stabe_any B least g c L.toArray w ((hg.cell (p := ⟨B, 3, none⟩) hlt).trans hB) (Nat.lt_of_lt_of_le hlt hg.size) (by omega) hH hblk (by simpa using h20)
  have hi := ins_sort (ltOf (cfE least)) L.toArray
  have hz := ins_size (ltOf (cfE least)) L.toArray
  have hlt : ltOf (cfE least) = (fun a b => ltV least a.2 b.2) := by funext x y; exact cfE_lt least x y
  simp only [List.size_toArray] at hs hi hz
  rw [hlt] at hs hi hz
  have HI := Lib.hid hi
  have HZ := Lib.hid hz
  have HS := Lib.hid hs
  clear hs hi hz hlt hown hH h20
  go_enter Tryz.func90, Tryz.ntmps90
  go_wp2_with fail
  refine HS.out.mono ?_; rintro e w1 ⟨rfl, hgx, hh⟩
  have hgr := hgx.gr hg (by omega)
  have hrd := rd_holds enC 7 enC_len (by decide) hh (Nat.lt_of_lt_of_le hblk hgx.size) HZ.out
  rw [HI.out] at hrd
  go_wp2
  go_end0
  exact ⟨rfl, hgr, hrd⟩
end Go.Proofs.YtbdichmkgcngbaaGreat
