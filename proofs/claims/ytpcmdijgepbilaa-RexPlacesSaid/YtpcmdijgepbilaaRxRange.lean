/- The contract of rex.reader.ranges: whether a hyphen that is next may make a range. -/
import Derived.Test.YtpcmdijgepbilaaRxRng2
namespace Go.Proofs.Ytpcmdijgepbilaa
set_option linter.unusedVariables false
set_option linter.unusedSimpArgs false
open Go.RowKit

theorem ranges_any {w : World} {R n : Nat} {s : ByteArray} {q : Rs} (h : Rdr w R s n q) (hs : (s.size : Int) ≤ 4096) :
    Calls Try.prog 46 #[.pointer (some ⟨R, 0, none⟩)] w fun e w' => e = .returned (.bool (rangesS q.rest)) ∧ Gr w w' := by
  cases hh : headIs 45 q.rest
  · have e : rangesS q.rest = false := by
      match q.rest, hh with
      | [], _ => rfl
      | [_], _ => rfl
      | c :: d :: r, hh => simp only [headIs] at hh; simp [rangesS, hh]
    rw [e]
    exact rng_no h hs hh
  · obtain ⟨c, r, hq, hc⟩ := headIs_cons hh
    have hcb : (c.toNat == 45) = true := by rw [hc]; rfl
    match r, hq with
    | [], hq => rw [hq]; exact rng_end h hs hc hq
    | d :: r, hq =>
      by_cases h93 : d.toNat = 93
      · rw [hq, show rangesS (c :: d :: r) = false by simp [rangesS, hcb, h93]]
        exact rng_shut h hs hc hq h93
      · have q93 : (d.toNat == 93) = false := beq_eq_false_iff_ne.2 h93
        by_cases h92 : d.toNat = 92
        · have q92 : (d.toNat == 92) = true := by rw [h92]; rfl
          match r, hq with
          | [], hq => rw [hq, show rangesS [c, d] = true by simp [rangesS, hcb, q93]]; exact rng_last h hs hc hq h92
          | x :: r, hq => rw [hq, show rangesS (c :: d :: x :: r) = !isNamed x.toNat by simp [rangesS, hcb, q93, q92]]; exact rng_named h hs hc hq h92
        · have q92 : (d.toNat == 92) = false := beq_eq_false_iff_ne.2 h92
          rw [hq, show rangesS (c :: d :: r) = true by simp [rangesS, hcb, q93, q92]]
          exact rng_plain h hs hc hq h93 h92
end Go.Proofs.Ytpcmdijgepbilaa
