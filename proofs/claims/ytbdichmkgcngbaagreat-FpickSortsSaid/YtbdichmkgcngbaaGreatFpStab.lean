/- The library's stable sort at no more than 20 series, at no more than 20 entries: one block of its insertion sort. -/
import Derived.Test.YtbdichmkgcngbaaGreatMgH
namespace Go.Proofs.YtbdichmkgcngbaaGreat
open Go.RowKit Go.Sort Go.Shelf
set_option linter.unusedVariables false
set_option linter.unusedSimpArgs false

/-- nothing to sort. -/
theorem inszn_any (A : Option Addr) (c : Nat) (f : Value) (w : World) :
    Calls Tryz.prog 111 #[.slice A 0 c, .int .i64 0, .int .i64 0, f] w fun e w' => e = .returned (.tuple #[]) ∧ w = w' := by
  go_enter Tryz.func111, Tryz.ntmps111
  go_wp2
  go_loopw [8] (fun i wr => i = .int .i64 1 ∧ wr = w) (fun _ _ => 0)
  case atStart => exact ⟨rfl, rfl⟩
  case round =>
    obtain ⟨rfl, rfl⟩ := hrel
    go_wp2
    go_end0
    exact ⟨rfl, rfl⟩
set_option maxRecDepth 100000 in
set_option maxHeartbeats 1600000 in
theorem stabzn_any (A : Option Addr) (c : Nat) (f : Value) (w : World) :
    Calls Tryz.prog 88 #[.slice A 0 c, .int .i64 0, f] w fun e w' => e = .returned (.tuple #[]) ∧ w = w' := by
  go_enter Tryz.func88, Tryz.ntmps88
  go_wp2
  go_loopw [7, 8] (fun a b wr => a = .int .i64 0 ∧ b = .int .i64 20 ∧ wr = w) (fun _ _ _ => 0)
  case atStart => exact ⟨rfl, rfl, rfl⟩
  case round =>
    obtain ⟨rfl, rfl, rfl⟩ := hrel
    go_wp2_with fail
    refine (inszn_any A c f _).mono ?_; rintro e w1 ⟨rfl, rfl⟩
    go_wp2
    go_loopw [6] (fun a wr2 => a = .int .i64 20 ∧ wr2 = wr) (fun _ _ => 0)
    case atStart => exact ⟨rfl, rfl⟩
    case round =>
      obtain ⟨rfl, rfl⟩ := hrel
      go_wp2
      go_end0
      exact ⟨rfl, rfl⟩
set_option maxRecDepth 100000 in
set_option maxHeartbeats 3200000 in
theorem stabn_any (blk cap : Nat) (d : Array Sq) (w : World) (hH : HoldsK sqC 5 w blk 0 d) (hblk : blk < w.heap.size) (h20 : d.size ≤ 20) :
    Calls Tryz.prog 88 #[.slice (some ⟨blk, 0, none⟩) d.size cap, .int .i64 d.size, .func (.func 57) #[] #[]] w fun e w' =>
      e = .returned (.tuple #[]) ∧ GX blk w w' ∧ HoldsK sqC 5 w' blk 0 (insertionSort (ltOf cfN) d 0 d.size) := by
  have hs := ins_size (ltOf cfN) d
  by_cases hn : d.size = 20
  · have h1 : (20 : Int) ≤ (d.size : Int) := by omega
    have h2 : ¬ (40 : Int) ≤ (d.size : Int) := by omega
    have h3 : ¬ (20 : Int) < (d.size : Int) := by omega
    have Q0 : Calls Tryz.prog 111 #[.slice (some ⟨blk, 0, none⟩) d.size cap, .int .i64 0, .int .i64 20, .func (.func 57) #[] #[]] w fun e w' =>
      e = .returned (.tuple #[]) ∧ GX blk w w' ∧ HoldsK sqC 5 w' blk 0 (insertionSort (ltOf cfN) d 0 d.size) := by
      have h := insn_any blk cap 0 d.size d w hH hblk (Nat.zero_le _) (Nat.le_refl _) (by omega)
      have e20 : (d.size : Int) = 20 := by omega
      have h' : Calls Tryz.prog 111 #[.slice (some ⟨blk, 0, none⟩) d.size cap, .int .i64 0, .int .i64 (d.size : Int), .func (.func 57) #[] #[]] w _ := h
      rw [e20] at h'
      exact h'.mono fun e w' ⟨he, hg, hh⟩ => ⟨he, hg, hh hs⟩
    obtain ⟨D, hD⟩ : ∃ D, insertionSort (ltOf cfN) d 0 d.size = D := ⟨_, rfl⟩
    rw [hD] at Q0 hs ⊢
    have Q2 : Hid (∀ wr, GX blk w wr → HoldsK sqC 5 wr blk 0 D → Calls Tryz.prog 111 #[.slice (some ⟨blk, 0, none⟩) d.size cap, .int .i64 20, .int .i64 (d.size : Int), .func (.func 57) #[] #[]] wr fun e w' =>
      e = .returned (.tuple #[]) ∧ GX blk wr w' ∧ HoldsK sqC 5 w' blk 0 D) := Lib.hid (fun wr hgx hh => by
      have h := insn_any blk cap 20 D.size D wr hh (Nat.lt_of_lt_of_le hblk hgx.size) (by omega) (Nat.le_refl _) (by omega)
      have e20 : D.size = 20 := by omega
      rw [e20, ins_none, hn.symm] at h
      have e21 : (20 : Int) = (d.size : Int) := by omega
      rw [e21]
      exact h.mono fun e w' ⟨he, hg, hh⟩ => ⟨he, hg, hh (by omega)⟩)
    have Q0 := Lib.hid Q0
    have HD := Lib.hid hD
    clear hs hn hD
    go_enter Tryz.func88, Tryz.ntmps88
    go_wp2
    go_loopw [7, 8] (fun a b wr => (a = .int .i64 0 ∧ b = .int .i64 20 ∧ wr = w) ∨ (a = .int .i64 20 ∧ b = .int .i64 40 ∧ GX blk w wr ∧ HoldsK sqC 5 wr blk 0 D)) (fun _ b _ => 100 - (intOf b).toNat)
    case atStart => exact .inl ⟨rfl, rfl, rfl⟩
    case round =>
      rcases hrel with ⟨rfl, rfl, rfl⟩ | ⟨rfl, rfl, hgx, hh⟩
      · go_wp2_with fail
        refine Q0.out.mono ?_; rintro e w1 ⟨rfl, hgx, hh⟩
        go_wp2
        go_roundw
        case rel => exact .inr ⟨rfl, rfl, hgx, hh⟩
        case measure => simp [intOf]
      · go_wp2_with fail
        refine (Q2.out _ hgx hh).mono ?_; rintro e w1 ⟨rfl, hgx1, hh1⟩
        have hgx2 := hgx.trans hgx1
        go_wp2
        go_loopw [6] (fun a wr2 => a = .int .i64 20 ∧ wr2 = w1) (fun _ _ => 0)
        case atStart => exact ⟨rfl, rfl⟩
        case round =>
          obtain ⟨rfl, rfl⟩ := hrel
          go_wp2
          go_end0
          exact ⟨rfl, hgx2, hh1⟩
  · have h1 : ¬ (20 : Int) ≤ (d.size : Int) := by omega
    have h3 : ¬ (20 : Int) < (d.size : Int) := by omega
    have Q0 : Calls Tryz.prog 111 #[.slice (some ⟨blk, 0, none⟩) d.size cap, .int .i64 0, .int .i64 (d.size : Int), .func (.func 57) #[] #[]] w fun e w' =>
      e = .returned (.tuple #[]) ∧ GX blk w w' ∧ HoldsK sqC 5 w' blk 0 (insertionSort (ltOf cfN) d 0 d.size) := by
      have h := insn_any blk cap 0 d.size d w hH hblk (Nat.zero_le _) (Nat.le_refl _) (by omega)
      exact h.mono fun e w' ⟨he, hg, hh⟩ => ⟨he, hg, hh hs⟩
    generalize insertionSort (ltOf cfN) d 0 d.size = D at Q0 hs ⊢
    have Q0 := Lib.hid Q0
    clear hs hn
    go_enter Tryz.func88, Tryz.ntmps88
    go_wp2
    go_loopw [7, 8] (fun a b wr => a = .int .i64 0 ∧ b = .int .i64 20 ∧ wr = w) (fun _ _ _ => 0)
    case atStart => exact ⟨rfl, rfl, rfl⟩
    case round =>
      obtain ⟨rfl, rfl, rfl⟩ := hrel
      go_wp2_with fail
      refine Q0.out.mono ?_; rintro e w1 ⟨rfl, hgx, hh⟩
      go_wp2
      go_loopw [6] (fun a wr2 => a = .int .i64 20 ∧ wr2 = w1) (fun _ _ => 0)
      case atStart => exact ⟨rfl, rfl⟩
      case round =>
        obtain ⟨rfl, rfl⟩ := hrel
        go_wp2
        go_end0
        exact ⟨rfl, hgx, hh⟩

set_option maxHeartbeats 1600000 in
/-- slices.SortStableFunc. -/
theorem sortn_any (base c : Nat) (A : Option Addr) (L : List Sq) (wb w : World) (h20 : L.length ≤ 20) (hown : w.ownsRow base 30 5 (.slice A L.length c) L.length (L.flatMap sqC)) (hg : Gr wb w) (hb : wb.heap.size ≤ base) :
    Calls Tryz.prog 56 #[.slice A L.length c, .func (.func 57) #[] #[]] w fun e w' =>
      e = .returned (.tuple #[]) ∧ Gr wb w' ∧ Rd w' 5 A L.length ((sortR (fun a b => ltN a.s.name b.s.name) L).flatMap sqC) := by
  rcases Nat.eq_zero_or_pos L.length with h0 | h0
  · have hL : L = [] := List.eq_nil_of_length_eq_zero h0
    subst hL
    show Calls Tryz.prog 56 #[.slice A 0 c, .func (.func 57) #[] #[]] w _
    clear hown h20 h0
    go_enter Tryz.func56, Tryz.ntmps56
    go_wp2_with fail
    refine (stabzn_any A c _ _).mono ?_; rintro e w1 ⟨rfl, rfl⟩
    go_wp2
    go_end0
    exact ⟨rfl, hg, Rd.nil _ _ _⟩
  · obtain ⟨g, hgA⟩ : ∃ g, A = some ⟨g, 0, none⟩ := by
      obtain ⟨_, ⟨hv, h1⟩ | ⟨g', cap, cur, hv, _⟩⟩ := id hown
      · omega
      · injection hv with h1
        exact ⟨g', h1⟩
    subst hgA
    obtain ⟨hH, hgb⟩ := holds_own sqC 5 sqC_len (by decide) (d := L.toArray) hown (by simp)
    obtain ⟨hblk, hbase⟩ := hgb h0
    have hs := stabn_any g c L.toArray w hH hblk (by simpa using h20)
    have hi := ins_sort (ltOf cfN) L.toArray
    have hz := ins_size (ltOf cfN) L.toArray
    have hlt : ltOf cfN = (fun a b => ltN a.s.name b.s.name) := by funext x y; exact cfN_lt x y
    simp only [List.size_toArray] at hs hi hz
    rw [hlt] at hs hi hz
    have HI := Lib.hid hi
    have HZ := Lib.hid hz
    have HS := Lib.hid hs
    clear hs hi hz hlt hown hH h20
    go_enter Tryz.func56, Tryz.ntmps56
    go_wp2_with fail
    refine HS.out.mono ?_; rintro e w1 ⟨rfl, hgx, hh⟩
    have hgr := hgx.gr hg (by omega)
    have hrd := rd_holds sqC 5 sqC_len (by decide) hh (Nat.lt_of_lt_of_le hblk hgx.size) HZ.out
    rw [HI.out] at hrd
    go_wp2
    go_end0
    exact ⟨rfl, hgr, hrd⟩

/-- nothing to sort. -/
theorem insze_any (A : Option Addr) (c : Nat) (f : Value) (w : World) :
    Calls Tryz.prog 131 #[.slice A 0 c, .int .i64 0, .int .i64 0, f] w fun e w' => e = .returned (.tuple #[]) ∧ w = w' := by
  go_enter Tryz.func131, Tryz.ntmps131
  go_wp2
  go_loopw [8] (fun i wr => i = .int .i64 1 ∧ wr = w) (fun _ _ => 0)
  case atStart => exact ⟨rfl, rfl⟩
  case round =>
    obtain ⟨rfl, rfl⟩ := hrel
    go_wp2
    go_end0
    exact ⟨rfl, rfl⟩
set_option maxRecDepth 100000 in
set_option maxHeartbeats 1600000 in
theorem stabze_any (A : Option Addr) (c : Nat) (f : Value) (w : World) :
    Calls Tryz.prog 114 #[.slice A 0 c, .int .i64 0, f] w fun e w' => e = .returned (.tuple #[]) ∧ w = w' := by
  go_enter Tryz.func114, Tryz.ntmps114
  go_wp2
  go_loopw [7, 8] (fun a b wr => a = .int .i64 0 ∧ b = .int .i64 20 ∧ wr = w) (fun _ _ _ => 0)
  case atStart => exact ⟨rfl, rfl, rfl⟩
  case round =>
    obtain ⟨rfl, rfl, rfl⟩ := hrel
    go_wp2_with fail
    refine (insze_any A c f _).mono ?_; rintro e w1 ⟨rfl, rfl⟩
    go_wp2
    go_loopw [6] (fun a wr2 => a = .int .i64 20 ∧ wr2 = wr) (fun _ _ => 0)
    case atStart => exact ⟨rfl, rfl⟩
    case round =>
      obtain ⟨rfl, rfl⟩ := hrel
      go_wp2
      go_end0
      exact ⟨rfl, rfl⟩
set_option maxRecDepth 100000 in
set_option maxHeartbeats 3200000 in
theorem stabe_any (B : Nat) (least : Bool) (blk cap : Nat) (d : Array En) (w : World) (hB : w.cell? ⟨B, 3, none⟩ = some (.bool least)) (hlt : B < w.heap.size) (hne : B ≠ blk) (hH : HoldsK enC 7 w blk 0 d) (hblk : blk < w.heap.size) (h20 : d.size ≤ 20) :
    Calls Tryz.prog 114 #[.slice (some ⟨blk, 0, none⟩) d.size cap, .int .i64 d.size, .func (.func 91) #[] #[.pointer (some ⟨B, 0, none⟩)]] w fun e w' =>
      e = .returned (.tuple #[]) ∧ GX blk w w' ∧ HoldsK enC 7 w' blk 0 (insertionSort (ltOf (cfE least)) d 0 d.size) := by
  have hs := ins_size (ltOf (cfE least)) d
  by_cases hn : d.size = 20
  · have h1 : (20 : Int) ≤ (d.size : Int) := by omega
    have h2 : ¬ (40 : Int) ≤ (d.size : Int) := by omega
    have h3 : ¬ (20 : Int) < (d.size : Int) := by omega
    have Q0 : Calls Tryz.prog 131 #[.slice (some ⟨blk, 0, none⟩) d.size cap, .int .i64 0, .int .i64 20, .func (.func 91) #[] #[.pointer (some ⟨B, 0, none⟩)]] w fun e w' =>
      e = .returned (.tuple #[]) ∧ GX blk w w' ∧ HoldsK enC 7 w' blk 0 (insertionSort (ltOf (cfE least)) d 0 d.size) := by
      have h := inse_any B least blk cap 0 d.size d w hB hlt hne hH hblk (Nat.zero_le _) (Nat.le_refl _) (by omega)
      have e20 : (d.size : Int) = 20 := by omega
      have h' : Calls Tryz.prog 131 #[.slice (some ⟨blk, 0, none⟩) d.size cap, .int .i64 0, .int .i64 (d.size : Int), .func (.func 91) #[] #[.pointer (some ⟨B, 0, none⟩)]] w _ := h
      rw [e20] at h'
      exact h'.mono fun e w' ⟨he, hg, hh⟩ => ⟨he, hg, hh hs⟩
    obtain ⟨D, hD⟩ : ∃ D, insertionSort (ltOf (cfE least)) d 0 d.size = D := ⟨_, rfl⟩
    rw [hD] at Q0 hs ⊢
    have Q2 : Hid (∀ wr, GX blk w wr → HoldsK enC 7 wr blk 0 D → Calls Tryz.prog 131 #[.slice (some ⟨blk, 0, none⟩) d.size cap, .int .i64 20, .int .i64 (d.size : Int), .func (.func 91) #[] #[.pointer (some ⟨B, 0, none⟩)]] wr fun e w' =>
      e = .returned (.tuple #[]) ∧ GX blk wr w' ∧ HoldsK enC 7 w' blk 0 D) := Lib.hid (fun wr hgx hh => by
      have h := inse_any B least blk cap 20 D.size D wr ((hgx.cell (p := ⟨B, 3, none⟩) hlt hne).trans hB) (Nat.lt_of_lt_of_le hlt hgx.size) hne hh (Nat.lt_of_lt_of_le hblk hgx.size) (by omega) (Nat.le_refl _) (by omega)
      have e20 : D.size = 20 := by omega
      rw [e20, ins_none, hn.symm] at h
      have e21 : (20 : Int) = (d.size : Int) := by omega
      rw [e21]
      exact h.mono fun e w' ⟨he, hg, hh⟩ => ⟨he, hg, hh (by omega)⟩)
    have Q0 := Lib.hid Q0
    have HD := Lib.hid hD
    clear hs hn hD
    go_enter Tryz.func114, Tryz.ntmps114
    go_wp2
    go_loopw [7, 8] (fun a b wr => (a = .int .i64 0 ∧ b = .int .i64 20 ∧ wr = w) ∨ (a = .int .i64 20 ∧ b = .int .i64 40 ∧ GX blk w wr ∧ HoldsK enC 7 wr blk 0 D)) (fun _ b _ => 100 - (intOf b).toNat)
    case atStart => exact .inl ⟨rfl, rfl, rfl⟩
    case round =>
      rcases hrel with ⟨rfl, rfl, rfl⟩ | ⟨rfl, rfl, hgx, hh⟩
      · go_wp2_with fail
        refine Q0.out.mono ?_; rintro e w1 ⟨rfl, hgx, hh⟩
        go_wp2
        go_roundw
        case rel => exact .inr ⟨rfl, rfl, hgx, hh⟩
        case measure => simp [intOf]
      · go_wp2_with fail
        refine (Q2.out _ hgx hh).mono ?_; rintro e w1 ⟨rfl, hgx1, hh1⟩
        have hgx2 := hgx.trans hgx1
        go_wp2
        go_loopw [6] (fun a wr2 => a = .int .i64 20 ∧ wr2 = w1) (fun _ _ => 0)
        case atStart => exact ⟨rfl, rfl⟩
        case round =>
          obtain ⟨rfl, rfl⟩ := hrel
          go_wp2
          go_end0
          exact ⟨rfl, hgx2, hh1⟩
  · have h1 : ¬ (20 : Int) ≤ (d.size : Int) := by omega
    have h3 : ¬ (20 : Int) < (d.size : Int) := by omega
    have Q0 : Calls Tryz.prog 131 #[.slice (some ⟨blk, 0, none⟩) d.size cap, .int .i64 0, .int .i64 (d.size : Int), .func (.func 91) #[] #[.pointer (some ⟨B, 0, none⟩)]] w fun e w' =>
      e = .returned (.tuple #[]) ∧ GX blk w w' ∧ HoldsK enC 7 w' blk 0 (insertionSort (ltOf (cfE least)) d 0 d.size) := by
      have h := inse_any B least blk cap 0 d.size d w hB hlt hne hH hblk (Nat.zero_le _) (Nat.le_refl _) (by omega)
      exact h.mono fun e w' ⟨he, hg, hh⟩ => ⟨he, hg, hh hs⟩
    generalize insertionSort (ltOf (cfE least)) d 0 d.size = D at Q0 hs ⊢
    have Q0 := Lib.hid Q0
    clear hs hn
    go_enter Tryz.func114, Tryz.ntmps114
    go_wp2
    go_loopw [7, 8] (fun a b wr => a = .int .i64 0 ∧ b = .int .i64 20 ∧ wr = w) (fun _ _ _ => 0)
    case atStart => exact ⟨rfl, rfl, rfl⟩
    case round =>
      obtain ⟨rfl, rfl, rfl⟩ := hrel
      go_wp2_with fail
      refine Q0.out.mono ?_; rintro e w1 ⟨rfl, hgx, hh⟩
      go_wp2
      go_loopw [6] (fun a wr2 => a = .int .i64 20 ∧ wr2 = w1) (fun _ _ => 0)
      case atStart => exact ⟨rfl, rfl⟩
      case round =>
        obtain ⟨rfl, rfl⟩ := hrel
        go_wp2
        go_end0
        exact ⟨rfl, hgx, hh⟩

set_option maxHeartbeats 1600000 in
/-- slices.SortStableFunc. -/
theorem sorte_any (B : Nat) (least : Bool) (base c : Nat) (A : Option Addr) (L : List En) (wb w : World) (hB : wb.cell? ⟨B, 3, none⟩ = some (.bool least)) (hlt : B < wb.heap.size) (h20 : L.length ≤ 20) (hown : w.ownsRow base 128 7 (.slice A L.length c) L.length (L.flatMap enC)) (hg : Gr wb w) (hb : wb.heap.size ≤ base) :
    Calls Tryz.prog 90 #[.slice A L.length c, .func (.func 91) #[] #[.pointer (some ⟨B, 0, none⟩)]] w fun e w' =>
      e = .returned (.tuple #[]) ∧ Gr wb w' ∧ Rd w' 7 A L.length ((sortR (fun a b => ltV least a.2 b.2) L).flatMap enC) := by
  rcases Nat.eq_zero_or_pos L.length with h0 | h0
  · have hL : L = [] := List.eq_nil_of_length_eq_zero h0
    subst hL
    show Calls Tryz.prog 90 #[.slice A 0 c, .func (.func 91) #[] #[.pointer (some ⟨B, 0, none⟩)]] w _
    clear hown h20 h0 hB hlt
    go_enter Tryz.func90, Tryz.ntmps90
    go_wp2_with fail
    refine (stabze_any A c _ _).mono ?_; rintro e w1 ⟨rfl, rfl⟩
    go_wp2
    go_end0
    exact ⟨rfl, hg, Rd.nil _ _ _⟩
  · obtain ⟨g, hgA⟩ : ∃ g, A = some ⟨g, 0, none⟩ := by
      obtain ⟨_, ⟨hv, h1⟩ | ⟨g', cap, cur, hv, _⟩⟩ := id hown
      · omega
      · injection hv with h1
        exact ⟨g', h1⟩
    subst hgA
    obtain ⟨hH, hgb⟩ := holds_own enC 7 enC_len (by decide) (d := L.toArray) hown (by simp)
    obtain ⟨hblk, hbase⟩ := hgb h0
    have hs := stabe_any B least g c L.toArray w ((hg.cell (p := ⟨B, 3, none⟩) hlt).trans hB) (Nat.lt_of_lt_of_le hlt hg.size) (by omega) hH hblk (by simpa using h20)
    have hi := ins_sort (ltOf (cfE least)) L.toArray
    have hz := ins_size (ltOf (cfE least)) L.toArray
    have hlt : ltOf (cfE least) = (fun a b => ltV least a.2 b.2) := by funext x y; exact cfE_lt least x y
    simp only [List.size_toArray] at hs hi hz
    rw [hlt] at hs hi hz
    have HI := Lib.hid hi
    have HZ := Lib.hid hz
    have HS := Lib.hid hs
    clear hs hi hz hlt hown hH h20
    go_enter Tryz.func90, Tryz.ntmps90
    go_wp2_with fail
    refine HS.out.mono ?_; rintro e w1 ⟨rfl, hgx, hh⟩
    have hgr := hgx.gr hg (by omega)
    have hrd := rd_holds enC 7 enC_len (by decide) hh (Nat.lt_of_lt_of_le hblk hgx.size) HZ.out
    rw [HI.out] at hrd
    go_wp2
    go_end0
    exact ⟨rfl, hgr, hrd⟩
end Go.Proofs.YtbdichmkgcngbaaGreat
