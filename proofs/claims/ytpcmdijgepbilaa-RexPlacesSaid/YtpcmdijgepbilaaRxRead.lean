/- The contract of rex.reader.ways, the reader's functions put together. -/
import Derived.Test.YtpcmdijgepbilaaRxWays
namespace Go.Proofs.Ytpcmdijgepbilaa
set_option linter.unusedVariables false
set_option linter.unusedSimpArgs false
open Go.RowKit

theorem ways_all {R : Nat} {s : ByteArray} (hs : (s.size : Int) ≤ 4096) (n : Nat) : ∀ (W : World) (m : Nat) (q : Rs), Rdr W R s m q → q.rest.length < n → Bd q →
    Calls Try.prog 12 #[.pointer (some ⟨R, 0, none⟩)] W (RetP R s W (waysS n q).1 (waysS n q).2) := by
  induction n with
  | zero => intro W m q _ h; exact absurd h (Nat.not_lt_zero _)
  | succ n ih =>
    intro W m q h hq hB
    refine ways_row (waysS n) (waysS_gd n) h hs n (Nat.le_of_lt_succ hq) hB fun W m q h hq hB => ?_
    refine row_any (waysS n) (waysS_gd n) h hs n hq hB fun W m q c r h hr hq hB => ?_
    have hl : q.rest.length = r.length + 1 := by rw [hr]; rfl
    have hb1 := hB.1
    have hb2 := hB.2
    refine piece_all (waysS n) h hs hr fun W h => ?_
    refine group_all (waysS n) (waysS_gd n) h hs (by simp only; omega) (by simp only; omega) fun W m h => ?_
    obtain ⟨o1, o2, o3, -⟩ := openS_gd { q with rest := r, deep := q.deep + 1 }
    simp only at o1 o2 o3
    exact ih W m _ h (by simp only; omega) ⟨by simp only; omega, by simp only; omega⟩
end Go.Proofs.Ytpcmdijgepbilaa
