/- The contract of rex.writer.piece, put together. -/
import Derived.Test.YtpcmdijgepbilaaRxPutW
namespace Go.Proofs.Ytpcmdijgepbilaa
set_option linter.unusedVariables false
set_option linter.unusedSimpArgs false
open Go.RowKit

/-- what is said of a piece, wherever it lies and whatever has been laid. -/
def KP (p : Pc) : Prop := ∀ (w : World) (B : Nat) (A : Option Addr) (code : List In) (b lo hi : Nat), WrtA w B A code → p.In lo hi w b → hi ≤ B → 0 < code.length → code.length + p.sz ≤ 1016 → p.ok →
  Calls Try.prog 14 #[.pointer (some ⟨B, 0, none⟩), .pointer (some ⟨b, 0, none⟩)] w (RetW w B A (code ++ p.lay code.length))
theorem KP.kid {p : Pc} (h : KP p) {w : World} {B bk lo hi n : Nat} (hin : p.In lo hi w bk) (h2 : hi ≤ B) (hn : 0 < n) (hs : n + p.sz ≤ 1016) (hok : p.ok) : KidP lo hi B bk w p n := by
  intro w1 A1 code1 hB1 hS hl
  have := h w1 B A1 code1 bk lo hi hB1 (Pc.In.same hS _ _ hin) h2 (by omega) (by omega) hok
  rwa [hl] at this
theorem PcL.ok_get : ∀ (ds : PcL) (p : Pc) (rest : PcL), (ds.app (.cons p rest)).ok → p.ok
  | .nil, p, rest, h => h.1
  | .cons q l, p, rest, h => PcL.ok_get l p rest h.2
mutual
theorem put_all : ∀ p : Pc, KP p
  | .leaf op ps => fun w B A code b lo hi hB hin h2 h0 hs hok => by
    simp only [Pc.In] at hin
    simp only [Pc.ok] at hok
    simp only [Pc.sz] at hs
    simp only [Pc.lay]
    exact put_leaf hB (by omega) hok (by have := hB.lt; omega) hin.2.2
  | .row l => fun w B A code b lo hi hB hin h2 h0 hs hok => by
    simp only [Pc.In] at hin
    simp only [Pc.ok] at hok
    simp only [Pc.sz] at hs
    simp only [Pc.lay]
    obtain ⟨b0, b1, kids, bs, hn, hr, hl⟩ := hin
    have hln := hl.len
    refine put_row hB (by omega) b0 b1 h2 hr (by omega) hn hl fun ds p rest bk e hp => ?_
    have hk := putL_all l ds p rest e
    rw [e] at hok hs
    rw [PcL.szR_app] at hs
    simp only [PcL.szR] at hs
    exact hk.kid hp h2 (by omega) (by omega) (PcL.ok_get ds p rest hok.2)
  | .ways l => fun w B A code b lo hi hB hin h2 h0 hs hok => by
    simp only [Pc.In] at hin
    simp only [Pc.ok] at hok
    simp only [Pc.sz] at hs
    simp only [Pc.lay]
    obtain ⟨b0, b1, kids, bs, hn, hr, hl⟩ := hin
    have hln := hl.len
    obtain ⟨KA, kc, rfl, -⟩ := hr.form
    obtain ⟨⟨p0, m0, e0⟩, hl6, hok⟩ := hok
    refine put_ways hB (by omega) hn (ways_put hB h0 (by omega) h2 hr (by rw [← hln, e0]; simp [PcL.len]) (by omega) hl hln fun ds p rest bk e hp m hm0 hm => ?_)
    have hk := putL_all l ds p rest e
    rw [e] at hok
    exact hk.kid hp h2 hm0 hm (PcL.ok_get ds p rest hok)
  | .group g k => fun w B A code b lo hi hB hin h2 h0 hs hok => by
    simp only [Pc.In] at hin
    simp only [Pc.ok] at hok
    obtain ⟨b0, b1, kids, bk, hn, hr, hk⟩ := hin
    have ih := put_all k
    simp only [Pc.lay]
    simp only [Pc.sz] at hs
    cases hg : (g == 0)
    · have hg0 : 0 < g := by have := beq_eq_false_iff_ne.1 hg; omega
      simp only [hg, cond_false] at hs ⊢
      exact put_group hB hg0 hok.1 (by omega) b0 b1 h2 hr hn (ih.kid hk h2 (by omega) (by omega) hok.2)
    · have hg0 : g = 0 := by simpa using hg
      subst hg0
      simp only [hg, cond_true] at hs ⊢
      exact put_group0 hB (by omega) b0 b1 h2 hr hn (ih.kid hk h2 (by omega) (by omega) hok.2)
  | .rep op z k => fun w B A code b lo hi hB hin h2 h0 hs hok => by
    simp only [Pc.In] at hin
    simp only [Pc.ok] at hok
    obtain ⟨b0, b1, kids, bk, hn, hr, hk⟩ := hin
    have ih := put_all k
    obtain ⟨ho, hok⟩ := hok
    simp only [Pc.lay]
    simp only [Pc.sz] at hs
    rcases ho with rfl | rfl | rfl
    · simp only [Nat.reduceBEq, cond_true] at hs ⊢
      have hK := ih.kid (n := code.length + 1) hk h2 (by omega) (by omega) hok
      cases z
      · exact put_star_false hB (by omega) b0 b1 h2 hr hn hK
      · exact put_star_true hB (by omega) b0 b1 h2 hr hn hK
    · simp only [Nat.reduceBEq, cond_true, cond_false] at hs ⊢
      have hK := ih.kid (n := code.length) hk h2 (by omega) (by omega) hok
      cases z
      · exact put_plus_false hB (by omega) b0 b1 h2 hr hn hK
      · exact put_plus_true hB (by omega) b0 b1 h2 hr hn hK
    · simp only [Nat.reduceBEq, cond_false] at hs ⊢
      have hK := ih.kid (n := code.length + 1) hk h2 (by omega) (by omega) hok
      cases z
      · exact put_maybe_false hB (by omega) b0 b1 h2 hr hn hK
      · exact put_maybe_true hB (by omega) b0 b1 h2 hr hn hK
theorem putL_all : ∀ (l ds : PcL) (p : Pc) (rest : PcL), l = ds.app (.cons p rest) → KP p
  | .nil, ds, p, rest, e => by cases ds <;> (simp only [PcL.app] at e; cases e)
  | .cons q l, .nil, p, rest, e => by
    simp only [PcL.app] at e
    injection e with e1 e2
    rw [← e1]
    exact put_all q
  | .cons q l, .cons r ds, p, rest, e => by
    simp only [PcL.app] at e
    injection e with e1 e2
    exact putL_all l ds p rest e2
end
end Go.Proofs.Ytpcmdijgepbilaa
