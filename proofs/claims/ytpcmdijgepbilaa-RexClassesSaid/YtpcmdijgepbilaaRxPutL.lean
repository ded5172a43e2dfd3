/- rex.writer.piece at rows, the kids' contracts given. -/
import Derived.Test.YtpcmdijgepbilaaRxPutG
namespace Go.Proofs.Ytpcmdijgepbilaa
set_option linter.unusedVariables false
set_option linter.unusedSimpArgs false
open Go.RowKit

theorem PcL.app_one : ∀ (l : PcL) (p : Pc) (m : PcL), l.app (.cons p m) = (l.app (.cons p .nil)).app m
  | .nil, p, m => rfl
  | .cons q l, p, m => by rw [PcL.app, PcL.app, PcL.app, PcL.app_one l p m]
theorem PcL.len_app : ∀ (l m : PcL), (l.app m).len = l.len + m.len
  | .nil, m => by simp [PcL.app, PcL.len]
  | .cons p l, m => by simp only [PcL.app, PcL.len, PcL.len_app l m]; omega
theorem PcL.szR_app : ∀ (l m : PcL), (l.app m).szR = l.szR + m.szR
  | .nil, m => by simp [PcL.app, PcL.szR]
  | .cons p l, m => by simp only [PcL.app, PcL.szR, PcL.szR_app l m]; omega
theorem PcL.layR_app : ∀ (l m : PcL) (a : Nat), (l.app m).layR a = l.layR a ++ m.layR (a + l.szR)
  | .nil, m, a => by simp [PcL.app, PcL.layR, PcL.szR]
  | .cons p l, m, a => by simp only [PcL.app, PcL.layR, PcL.szR, PcL.layR_app l m, List.append_assoc, Nat.add_assoc]
theorem PcL.In.len {lo hi : Nat} {w : World} : ∀ {l : PcL} {bs : List Nat}, l.In lo hi w bs → l.len = bs.length
  | .nil, bs, h => by simp only [PcL.In] at h; subst h; rfl
  | .cons p l, bs, h => by
    simp only [PcL.In] at h
    obtain ⟨b, r, rfl, _, h2⟩ := h
    simp only [PcL.len, List.length_cons, h2.len]
theorem PcL.In.get {lo hi : Nat} {w : World} : ∀ {l : PcL} {p : Pc} {m : PcL} {bs : List Nat}, (l.app (.cons p m)).In lo hi w bs → ∃ bk, bs[l.len]? = some bk ∧ p.In lo hi w bk
  | .nil, p, m, bs, h => by
    simp only [PcL.app, PcL.In] at h
    obtain ⟨b, r, rfl, h1, _⟩ := h
    exact ⟨b, rfl, h1⟩
  | .cons q l, p, m, bs, h => by
    simp only [PcL.app, PcL.In] at h
    obtain ⟨b, r, rfl, _, h2⟩ := h
    obtain ⟨bk, h3, h4⟩ := PcL.In.get h2
    exact ⟨bk, by simpa [PcL.len] using h3, h4⟩
theorem Rkn.at_ {lo hi k bk : Nat} {w : World} {A : Option Addr} {n c : Nat} {bs : List Nat} (h : Rkn lo hi w (.slice A n c) bs) (hk : bs[k]? = some bk) : n = bs.length ∧ ∃ ad, A = some ad ∧ lo < ad.block ∧ ad.block < hi ∧ w.cell? (ad.add k) = some (.pointer (some ⟨bk, 0, none⟩)) := by
  obtain ⟨A', c', e, hr, hb⟩ := h
  have hlt : k < bs.length := (List.getElem?_eq_some_iff.1 hk).1
  injection e with e1 e2 e3
  subst e1
  obtain ⟨ad, rfl, _, hc⟩ := hr.2 (by omega)
  obtain ⟨h0, h1⟩ := hb (by omega) ad rfl
  exact ⟨e2, ad, rfl, h0, h1, hc k _ (by simp [ptrs, hk])⟩
theorem Rkn.form {lo hi : Nat} {w : World} {kids : Value} {bs : List Nat} (h : Rkn lo hi w kids bs) : ∃ A c, kids = .slice A bs.length c ∧ bs.length ≤ bs.length := by
  obtain ⟨A, c, e, _⟩ := h
  exact ⟨A, c, e, Nat.le_refl _⟩
theorem Same.add {lo hi : Nat} {w w' : World} (h : Same lo hi w w') {p : Addr} {k : Nat} (h0 : lo < p.block) (h1 : p.block < hi) {u : Value} (hc : w.cell? (p.add k) = some u) : w'.cell? (p.add k) = some u := h.at_ (by rw [add_blk]; exact h0) (by rw [add_blk]; exact h1) hc

/-- how the row goes on. -/
def RowR (w : World) (B : Nat) (A : Option Addr) (code : List In) (l : PcL) (k : Nat) (wr : World) : Prop :=
  ∃ (ds rest : PcL) (A' : Option Addr), l = ds.app rest ∧ ds.len = k ∧ WrtA wr B A' (code ++ ds.layR code.length) ∧ WX B w (blk A) wr (blk A')
set_option maxRecDepth 100000 in
set_option maxHeartbeats 3200000 in
theorem put_row {w : World} {B lo hi : Nat} {A : Option Addr} {code : List In} (hB : WrtA w B A code) {b : Nat} {kids : Value} {l : PcL} {bs : List Nat} (hl : code.length + l.szR ≤ 1016) (h0 : lo < b) (h1 : b < hi) (h2 : hi ≤ B) (hr : Rkn lo hi w kids bs) (hbs : bs.length ≤ 6000) (hn : Node w b 10 [] kids 0 false) (hin : l.In lo hi w bs)
    (HK : ∀ (ds : PcL) (p : Pc) (rest : PcL) (bk : Nat), l = ds.app (.cons p rest) → p.In lo hi w bk → KidP lo hi B bk w p (code.length + ds.szR)) :
    Calls Try.prog 14 #[.pointer (some ⟨B, 0, none⟩), .pointer (some ⟨b, 0, none⟩)] w (RetW w B A (code ++ l.layR code.length)) := by
  obtain ⟨KA, kc, rfl, -⟩ := hr.form
  have hll := hin.len
  obtain ⟨n, hnn⟩ : ∃ n, n = bs.length := ⟨_, rfl⟩
  rw [← hnn] at hr hn hll hbs
  have hful : decide (1024 < (code.length : Int)) = false := by simp; omega
  have hst : RowR w B A code l 0 w := ⟨.nil, l, A, rfl, rfl, by simpa [PcL.layR] using hB, WX.refl _ _ _⟩
  have Hst := Lib.hid hst
  have Hll := Lib.hid hll
  clear hst hll hnn
  obtain ⟨n0, n1, n2, n3, n4⟩ := hn
  go_enter Try.func14, Try.ntmps14
  go_wp2_with (go_at_call 15; refine (full_any hB).mono ?_; rintro e w1 ⟨rfl, rfl⟩)
  clear hful n0 n1 n2 n3 n4
  go_loopw [35] (fun t wr => ∃ k : Nat, t = .int .i64 k ∧ k ≤ n ∧ RowR w B A code l k wr) (fun t wr => n - (intOf t).toNat)
  case atStart => exact ⟨0, rfl, Nat.zero_le _, Hst.out⟩
  case round =>
    obtain ⟨k, rfl, hk, HR⟩ := hrel
    by_cases hlt : k < n
    · obtain ⟨ds, rest, A1, e1, e2, hB1, hX1⟩ := HR
      match rest, e1 with
      | .nil, e1 => exfalso; rw [e1, PcL.len_app] at Hll; have := Hll.out; simp only [PcL.len] at this; omega
      | .cons p rest, e1 =>
      have hin2 := hin
      rw [e1] at hin2
      obtain ⟨bk, hbk, hpin⟩ := hin2.get
      rw [e2] at hbk
      obtain ⟨-, ad, rfl, a0, a1, ha⟩ := hr.at_ hbk
      have hS1 := hB.same (lo := lo) hX1 h2
      have ha1 := hS1.add a0 a1 ha
      have HP := HK ds p rest bk e1 hpin
      have hlen : (code ++ ds.layR code.length).length = code.length + ds.szR := by rw [List.length_append, PcL.layR_len]
      have HC := HP wr A1 _ hB1 hS1 hlen
      have He := Lib.hid (And.intro e1 e2)
      have Hh := Lib.hid (And.intro hB1 hX1)
      clear e1 e2 hB1 hX1 hin2 hbk ha hlen hin HK HP hl hS1 hpin hr
      go_wp2_with (go_at_call 14; refine HC.mono ?_; rintro e w2 ⟨rfl, A2, hB2, hX2⟩; have Hh2 := Lib.hid (And.intro hB2 hX2); clear hB2 hX2)
      go_roundw
      case rel =>
        refine ⟨k + 1, by go_num, by omega, ds.app (.cons p .nil), rest, A2, ?_, ?_, ?_, Hh.out.2.trans Hh2.out.2⟩
        · rw [He.out.1]; exact PcL.app_one _ _ _
        · rw [PcL.len_app, He.out.2]; rfl
        · rw [PcL.layR_app]
          have := Hh2.out.1
          simpa [PcL.layR] using this
      case measure => simp [intOf]; omega
    · have hkn : k = n := by omega
      have HR' := Lib.hid HR
      clear HR hin HK hr
      go_wp2
      go_end0
      obtain ⟨ds, rest, A1, e1, e2, hB1, hX1⟩ := HR'.out
      have : rest = .nil := by
        cases rest with
        | nil => rfl
        | cons q r => exfalso; have := Hll.out; rw [e1, PcL.len_app] at this; simp only [PcL.len] at this; omega
      subst this
      rw [PcL.app_nil] at e1
      rw [← e1] at hB1
      exact ⟨rfl, A1, hB1, hX1⟩
end Go.Proofs.Ytpcmdijgepbilaa
