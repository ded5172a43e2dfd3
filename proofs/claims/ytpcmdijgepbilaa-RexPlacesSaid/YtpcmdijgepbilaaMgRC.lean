/- Has of the program and of the reference: whether a byte is in one of the runs. The law RexHas. · Classes of bytes that are told by their numbers, in plain Lean: how they are read, and what their runs hold. No program in sight. · The reference's reader of expressions in memory; instructions that are moved. · Small functions of the reference's reader: more, bad, word, special. -/
import Derived.Test.YtpcmdijgepbilaaMgRB
import Derived.Test.YtpcmdijgepbilaaRxDeepP
import Derived.Test.YtpcmdijgepbilaaMgRA
namespace Go.Proofs.Ytpcmdijgepbilaa
set_option linter.unusedVariables false
set_option linter.unusedSimpArgs false
open Go.RowKit

def hasS : List UInt8 → Int → Bool
  | a :: b :: r, c => (decide ((a.toNat : Int) ≤ c) && decide (c ≤ (b.toNat : Int))) || hasS r c
  | [_], _ => false
  | [], _ => false
theorem hasS_yes {l : List UInt8} {c : Int} {k : Nat} (h : k + 1 < l.length) (h1 : (l[k].toNat : Int) ≤ c) (h2 : c ≤ (l[k + 1].toNat : Int)) : hasS (l.drop k) c = true := by
  rw [List.drop_eq_getElem_cons (by omega : k < l.length), List.drop_eq_getElem_cons h]
  simp only [hasS, h1, h2, decide_true, Bool.and_self, Bool.true_or]
theorem hasS_no {l : List UInt8} {c : Int} {k : Nat} (h : k + 1 < l.length) (h1 : ¬ ((l[k].toNat : Int) ≤ c ∧ c ≤ (l[k + 1].toNat : Int))) : hasS (l.drop k) c = hasS (l.drop (k + 2)) c := by
  rw [List.drop_eq_getElem_cons (by omega : k < l.length), List.drop_eq_getElem_cons h]
  have e : (decide ((l[k].toNat : Int) ≤ c) && decide (c ≤ (l[k + 1].toNat : Int))) = false := by
    rw [← Bool.decide_and]; exact decide_eq_false h1
  simp only [hasS, e, Bool.false_or]
theorem hasS_end {l : List UInt8} {c : Int} {k : Nat} (h : ¬ k + 1 < l.length) : hasS (l.drop k) c = false := by
  match e : l.drop k with
  | [] => rfl
  | [_] => rfl
  | a :: b :: r =>
    have := congrArg List.length e
    simp at this
    omega

set_option maxRecDepth 100000 in
set_option maxHeartbeats 3200000 in
theorem has_any (s : ByteArray) (hs : (s.size : Int) ≤ 9223372036854775800) (c : Int) (w : World) : Calls Try.prog 10 #[.string s, .int .u8 c] w fun e w' => e = .returned (.bool (hasS s.data.toList c)) ∧ w = w' := by
  obtain ⟨R, hR⟩ : ∃ R, R = hasS s.data.toList c := ⟨_, rfl⟩
  rw [← hR]
  have HR := Lib.hid hR
  clear hR
  go_enter Try.func10, Try.ntmps10
  go_wp2
  go_loop [5] (fun i => ∃ k : Nat, k ≤ s.size + 1 ∧ i = .int .i64 k ∧ R = hasS (s.data.toList.drop k) c) (fun i => s.size + 2 - (intOf i).toNat)
  case atStart => exact ⟨0, by omega, rfl, HR.out⟩
  case round =>
    obtain ⟨k, hk, rfl, hE⟩ := hrel
    have HE := Lib.hid hE
    clear hE
    by_cases hlt : k + 1 < s.size
    · have hlt' : (k : Int) + 1 < (s.size : Int) := by omega
      have hk0 : k < s.size := by omega
      have hkl : k + 1 < s.data.toList.length := by simpa using hlt
      have e1 : s.data.toList[k]'(by omega) = s[k] := rfl
      have e2 : s.data.toList[k + 1] = s[k + 1] := rfl
      have HEE := Lib.hid (And.intro e1 e2)
      clear e1 e2
      by_cases h1 : ((s[k]).toNat : Int) ≤ c
      · by_cases h2 : c ≤ ((s[k + 1]).toNat : Int)
        · go_wp2
          go_ret
          have := hasS_yes (l := s.data.toList) (c := c) hkl (by rw [HEE.out.1]; exact h1) (by rw [HEE.out.2]; exact h2)
          rw [HE.out, this]
          exact ⟨rfl, rfl⟩
        · go_wp2
          go_round
          case rel => exact ⟨k + 2, by omega, by go_num, by rw [HE.out]; exact hasS_no hkl (by rw [HEE.out.1, HEE.out.2]; exact fun h => absurd h.2 (by omega))⟩
          case measure => simp [intOf]; omega
      · go_wp2
        go_round
        case rel => exact ⟨k + 2, by omega, by go_num, by rw [HE.out]; exact hasS_no hkl (by rw [HEE.out.1, HEE.out.2]; exact fun h => absurd h.1 (by omega))⟩
        case measure => simp [intOf]; omega
    · have hge : ¬ (k : Int) + 1 < (s.size : Int) := by omega
      go_wp2
      go_ret
      have := hasS_end (l := s.data.toList) (c := c) (k := k) (by simpa using hlt)
      rw [HE.out, this]
      exact ⟨rfl, rfl⟩

set_option maxRecDepth 100000 in
set_option maxHeartbeats 3200000 in
theorem rhas_any (s : ByteArray) (hs : (s.size : Int) ≤ 9223372036854775800) (c : Int) (w : World) : Calls Try.prog 11 #[.string s, .int .u8 c] w fun e w' => e = .returned (.bool (hasS s.data.toList c)) ∧ w = w' := by
  obtain ⟨R, hR⟩ : ∃ R, R = hasS s.data.toList c := ⟨_, rfl⟩
  rw [← hR]
  have HR := Lib.hid hR
  clear hR
  go_enter Try.func11, Try.ntmps11
  go_wp2
  go_loop [5] (fun i => ∃ k : Nat, k ≤ s.size + 1 ∧ i = .int .i64 k ∧ R = hasS (s.data.toList.drop k) c) (fun i => s.size + 2 - (intOf i).toNat)
  case atStart => exact ⟨0, by omega, rfl, HR.out⟩
  case round =>
    obtain ⟨k, hk, rfl, hE⟩ := hrel
    have HE := Lib.hid hE
    clear hE
    by_cases hlt : k + 1 < s.size
    · have hlt' : (k : Int) + 1 < (s.size : Int) := by omega
      have hk0 : k < s.size := by omega
      have hkl : k + 1 < s.data.toList.length := by simpa using hlt
      have e1 : s.data.toList[k]'(by omega) = s[k] := rfl
      have e2 : s.data.toList[k + 1] = s[k + 1] := rfl
      have HEE := Lib.hid (And.intro e1 e2)
      clear e1 e2
      by_cases h1 : ((s[k]).toNat : Int) ≤ c
      · by_cases h2 : c ≤ ((s[k + 1]).toNat : Int)
        · go_wp2
          go_ret
          have := hasS_yes (l := s.data.toList) (c := c) hkl (by rw [HEE.out.1]; exact h1) (by rw [HEE.out.2]; exact h2)
          rw [HE.out, this]
          exact ⟨rfl, rfl⟩
        · go_wp2
          go_round
          case rel => exact ⟨k + 2, by omega, by go_num, by rw [HE.out]; exact hasS_no hkl (by rw [HEE.out.1, HEE.out.2]; exact fun h => absurd h.2 (by omega))⟩
          case measure => simp [intOf]; omega
      · go_wp2
        go_round
        case rel => exact ⟨k + 2, by omega, by go_num, by rw [HE.out]; exact hasS_no hkl (by rw [HEE.out.1, HEE.out.2]; exact fun h => absurd h.1 (by omega))⟩
        case measure => simp [intOf]; omega
    · have hge : ¬ (k : Int) + 1 < (s.size : Int) := by omega
      go_wp2
      go_ret
      have := hasS_end (l := s.data.toList) (c := c) (k := k) (by simpa using hlt)
      rw [HE.out, this]
      exact ⟨rfl, rfl⟩

set_option maxRecDepth 100000 in
set_option maxHeartbeats 3200000 in
theorem law_RexHas (s : ByteArray) (c : Int) (w : World) : Calls Try.prog 5 #[.string s, .int .u8 c] w fun e w' => e = .returned (.bool true) ∧ Gr w w' := by
  by_cases hl : (s.size : Int) ≤ 200
  · have hl2 : ¬ (200 : Int) < s.size := by omega
    obtain ⟨R, hR⟩ : ∃ R, R = hasS s.data.toList c := ⟨_, rfl⟩
    have h1 := fun w => has_any s (by omega) c w
    have h2 := fun w => rhas_any s (by omega) c w
    rw [← hR] at h1 h2
    have H1 := Lib.hid (And.intro h1 h2)
    clear hR h1 h2
    go_enter Try.func5, Try.ntmps5
    go_wp2_with (first | (go_at_call 10; refine (H1.out.1 _).mono ?_; rintro e w1 ⟨rfl, rfl⟩) | (go_at_call 11; refine (H1.out.2 _).mono ?_; rintro e w1 ⟨rfl, rfl⟩) | (go_at_call 9; refine (known_any _).mono ?_; rintro e w1 ⟨rfl, hg⟩))
    go_ret
    exact ⟨rfl, hg⟩
  · have hl2 : (200 : Int) < s.size := by omega
    go_enter Try.func5, Try.ntmps5
    go_wp2
    go_ret
    exact ⟨rfl, Gr.refl _⟩
end Go.Proofs.Ytpcmdijgepbilaa
namespace Go.Proofs.Ytpcmdijgepbilaa
set_option linter.unusedVariables false
set_option linter.unusedSimpArgs false
open Go.RowKit

def evn : List UInt8 → Bool
  | [] => true
  | [_] => false
  | _ :: _ :: r => evn r
theorem hasS_app : ∀ (L M : List UInt8) (c : Int), evn L = true → hasS (L ++ M) c = (hasS L c || hasS M c)
  | [], M, c, _ => by simp [hasS]
  | [_], M, c, h => by cases h
  | a :: b :: r, M, c, h => by simp only [List.cons_append, hasS, hasS_app r M c h, Bool.or_assoc]
theorem evn_app : ∀ (L M : List UInt8), evn L = true → evn (L ++ M) = evn M
  | [], M, _ => rfl
  | [_], M, h => by cases h
  | a :: b :: r, M, h => by simp only [List.cons_append, evn]; exact evn_app r M h
theorem toNat_ofNat {k : Nat} (h : k < 256) : (UInt8.ofNat k).toNat = k := by simp; omega
/-- how the runs of the first k bytes stand. -/
def RunsAt (f : Bs) (k : Nat) : Prop :=
  (∃ L a, pairsT f k = L ++ [UInt8.ofNat a] ∧ evn L = true ∧ a < k ∧ k ≤ 255 ∧ f k = true ∧ f (k - 1) = true ∧ (∀ j, a ≤ j → j < k → f j = true) ∧ ∀ c : Nat, c < 256 → hasS L c = (decide (c < a) && f c)) ∨
  (¬ (0 < k ∧ k ≤ 255 ∧ f (k - 1) = true ∧ f k = true) ∧ evn (pairsT f k) = true ∧ ∀ c : Nat, c < 256 → hasS (pairsT f k) c = (decide (c < k) && f c))
theorem runs_pair {a k c : Nat} (ha : a < 256) (hk : k < 256) : hasS [UInt8.ofNat a, UInt8.ofNat k] c = (decide (a ≤ c) && decide (c ≤ k)) := by
  simp only [hasS, Bool.or_false]
  rw [toNat_ofNat ha, toNat_ofNat hk]
  congr 1 <;> (apply decide_eq_decide.2; omega)
theorem runs_at (f : Bs) : ∀ k, k ≤ 256 → RunsAt f k := by
  intro k
  induction k with
  | zero => intro _; exact .inr ⟨by omega, rfl, fun c _ => by simp [pairsT, hasS]⟩
  | succ k ih =>
    intro hk
    have h := ih (by omega)
    cases hf : f k
    · rcases h with ⟨L, a, _, _, _, _, h6, _⟩ | ⟨h1, h2, h3⟩
      · rw [hf] at h6; cases h6
      · have e : pairsT f (k + 1) = pairsT f k := by simp [pairsT, hf]
        refine .inr ⟨by rw [Nat.add_sub_cancel, hf]; simp, by rw [e]; exact h2, fun c hc => ?_⟩
        rw [e, h3 c hc]
        by_cases hck : c = k
        · subst hck; simp [hf]
        · congr 1
          apply decide_eq_decide.2; omega
    · by_cases he : k = 255 ∨ f (k + 1) = false
      · have hend : (k == 255 || !f (k + 1)) = true := by rcases he with h | h <;> simp [h]
        have hcl : ¬ (0 < k + 1 ∧ k + 1 ≤ 255 ∧ f (k + 1 - 1) = true ∧ f (k + 1) = true) := by
          rcases he with h | h
          · omega
          · rw [h]; simp
        rcases h with ⟨L, a, h1, h2, h3, h4, h5, h6, h7, h8⟩ | ⟨h1, h2, h3⟩
        · have hst : (k == 0 || !f (k - 1)) = false := by rw [h6]; simp; omega
          have e : pairsT f (k + 1) = L ++ [UInt8.ofNat a, UInt8.ofNat k] := by simp [pairsT, hf, hst, hend, h1]
          refine .inr ⟨hcl, by rw [e, evn_app _ _ h2]; rfl, fun c hc => ?_⟩
          rw [e, hasS_app _ _ _ h2, h8 c hc, runs_pair (by omega) (by omega)]
          by_cases c1 : c < a
          · have : c < k + 1 := by omega
            simp [c1, this]
            omega
          · by_cases c2 : c ≤ k
            · have : f c = true := by
                by_cases c3 : c = k
                · subst c3; exact hf
                · exact h7 c (by omega) (by omega)
              have c4 : c < k + 1 := by omega
              have c5 : a ≤ c := by omega
              simp [this, c1, c2, c4, c5]
            · have c3 : ¬ c < k + 1 := by omega
              simp [c1, c2, c3]
        · have hst : (k == 0 || !f (k - 1)) = true := by
            by_cases h0 : k = 0
            · simp [h0]
            · have : f (k - 1) = false := by
                cases e : f (k - 1)
                · rfl
                · exact absurd ⟨by omega, by omega, e, hf⟩ h1
              simp [this]
          have e : pairsT f (k + 1) = pairsT f k ++ [UInt8.ofNat k, UInt8.ofNat k] := by simp [pairsT, hf, hst, hend]
          refine .inr ⟨hcl, by rw [e, evn_app _ _ h2]; rfl, fun c hc => ?_⟩
          rw [e, hasS_app _ _ _ h2, h3 c hc, runs_pair (by omega) (by omega)]
          by_cases c1 : c < k
          · have : c < k + 1 := by omega
            simp [c1, this]
            omega
          · by_cases c2 : c = k
            · subst c2; simp [hf]
            · have c3 : ¬ c < k + 1 := by omega
              have c4 : ¬ c ≤ k := by omega
              simp [c1, c3, c4]
      · have he1 : k ≠ 255 := fun h => he (.inl h)
        have he2 : f (k + 1) = true := by
          cases e : f (k + 1)
          · exact absurd (.inr e) he
          · rfl
        have hend : (k == 255 || !f (k + 1)) = false := by simp [he1, he2]
        rcases h with ⟨L, a, h1, h2, h3, h4, h5, h6, h7, h8⟩ | ⟨h1, h2, h3⟩
        · have hst : (k == 0 || !f (k - 1)) = false := by rw [h6]; simp; omega
          have e : pairsT f (k + 1) = L ++ [UInt8.ofNat a] := by simp [pairsT, hf, hst, hend, h1]
          refine .inl ⟨L, a, e, h2, by omega, by omega, he2, by rw [Nat.add_sub_cancel]; exact hf, fun j hj hj' => ?_, h8⟩
          by_cases c3 : j = k
          · subst c3; exact hf
          · exact h7 j hj (by omega)
        · have hst : (k == 0 || !f (k - 1)) = true := by
            by_cases h0 : k = 0
            · simp [h0]
            · have : f (k - 1) = false := by
                cases e : f (k - 1)
                · rfl
                · exact absurd ⟨by omega, by omega, e, hf⟩ h1
              simp [this]
          have e : pairsT f (k + 1) = pairsT f k ++ [UInt8.ofNat k] := by simp [pairsT, hf, hst, hend]
          refine .inl ⟨pairsT f k, k, e, h2, by omega, by omega, he2, by rw [Nat.add_sub_cancel]; exact hf, fun j hj hj' => ?_, h3⟩
          obtain rfl : j = k := by omega
          exact hf
theorem has_pairs (f : Bs) (c : Nat) (hc : c < 256) : hasS (pairsS f) c = f c := by
  rcases runs_at f 256 (Nat.le_refl _) with ⟨_, _, _, _, _, h4, _⟩ | ⟨_, _, h⟩
  · omega
  · unfold pairsS
    rw [h c hc]
    simp [hc]

def alnB (b : Nat) : Bool := (Nat.ble 97 b && Nat.ble b 122) || ((Nat.ble 65 b && Nat.ble b 90) || (Nat.ble 48 b && Nat.ble b 57))
/-- a byte, with a stroke where it needs one. -/
def esc1 (b : UInt8) : List UInt8 := bif alnB b.toNat then [b] else [92, b]
def escL (l : List UInt8) : List UInt8 := l.flatMap esc1
theorem side_esc (b : UInt8) (r : List UInt8) : sideS (esc1 b ++ r) = (some (oneB b.toNat, b.toNat, false), r) := by
  have hb := b.toNat_lt
  cases ha : alnB b.toNat
  · have h1 : namedB b.toNat = none := by
      unfold namedB
      have hn : ∀ x, alnB x = true → (b.toNat == x) = false := fun x hx => by
        apply beq_eq_false_iff_ne.2
        intro e
        rw [e, hx] at ha
        cases ha
      rw [hn 100 rfl, hn 68 rfl, hn 119 rfl, hn 87 rfl, hn 115 rfl, hn 83 rfl]
      rfl
    have h2 : isWordB b.toNat = false := by
      unfold isWordB wordB orB digB runB
      unfold alnB at ha
      simp only [Bool.or_eq_false_iff, Bool.and_eq_false_iff] at ha
      simp only [Bool.and_eq_false_iff, Bool.or_eq_false_iff, Bool.not_eq_false', beq_iff_eq]
      by_cases h95 : b.toNat = 95
      · right; exact h95
      · left
        refine ⟨⟨⟨ha.2.2, ha.1⟩, ha.2.1⟩, ?_⟩
        rw [← Bool.not_eq_true, ← Bool.not_eq_true, Nat.ble_eq, Nat.ble_eq]
        omega
    simp [esc1, ha, sideS, escS, h1, h2, isNamed]
  · have h92 : (b.toNat == 92) = false := by
      apply beq_eq_false_iff_ne.2
      intro e
      rw [e] at ha
      cases ha
    simp [esc1, ha, sideS, h92]
theorem esc_head (b : UInt8) (r : List UInt8) : ∃ x q, esc1 b ++ r = x :: q ∧ (alnB x.toNat = true ∨ x = 92) := by
  cases ha : alnB b.toNat
  · exact ⟨92, b :: r, by simp [esc1, ha], .inr rfl⟩
  · exact ⟨b, r, by simp [esc1, ha], .inl ha⟩
theorem head_ne {x : UInt8} {q : List UInt8} (h : alnB x.toNat = true ∨ x = 92) {c : Nat} (hc : alnB c = false) (h92 : c ≠ 92) : headIs c (x :: q) = false := by
  simp only [headIs]
  apply beq_eq_false_iff_ne.2
  intro e
  rcases h with h | h
  · rw [e, hc] at h; cases h
  · subst h; exact h92 e.symm
/-- what stands behind a byte of the class makes no range. -/
theorem no_range (l : List UInt8) : rangesS (escL l ++ [93]) = false := by
  cases l with
  | nil => rfl
  | cons b l =>
    obtain ⟨x, q, e, hx⟩ := esc_head b (escL l ++ [93])
    have : escL (b :: l) ++ [93] = x :: q := by rw [← e]; simp [escL]
    rw [this]
    have h45 := head_ne (q := q) hx (c := 45) rfl (by decide)
    simp only [headIs] at h45
    cases q with
    | nil => rfl
    | cons d r => simp [rangesS, h45]
theorem cls_esc : ∀ (l : List UInt8) (k : Nat) (first : Bool) (all : Bs), l.length < k → (first = true → l ≠ []) → ∃ f, clsS k first all (escL l ++ [93]) = (some f, []) ∧ ∀ c, f c = (all c || l.any (fun b => c == b.toNat)) := by
  intro l
  induction l with
  | nil =>
    intro k first all hk hf
    have hff : first = false := by cases first with | false => rfl | true => exact absurd rfl (hf rfl)
    subst hff
    obtain ⟨k, rfl⟩ : ∃ m, k = m + 1 := ⟨k - 1, by simp at hk; omega⟩
    exact ⟨all, by simp [clsS, escL, headIs], fun c => by simp⟩
  | cons b l ih =>
    intro k first all hk hf
    obtain ⟨k, rfl⟩ : ∃ m, k = m + 1 := ⟨k - 1, by simp at hk; omega⟩
    have e : escL (b :: l) ++ [93] = esc1 b ++ (escL l ++ [93]) := by simp [escL]
    obtain ⟨x, q, e2, hx⟩ := esc_head b (escL l ++ [93])
    have h93 := head_ne (q := q) hx (c := 93) rfl (by decide)
    obtain ⟨f, h1, h2⟩ := ih k false (orB all (oneB b.toNat)) (by simp at hk; omega) (fun h => by cases h)
    refine ⟨f, ?_, fun c => ?_⟩
    · unfold clsS
      rw [e, e2, h93, ← e2, side_esc]
      simp only [Bool.not_false, Bool.or_true, cond_true, no_range, Bool.and_false, cond_false]
      exact h1
    · rw [h2 c]
      simp [orB, oneB, Bool.or_assoc]
theorem escL_len (l : List UInt8) : l.length ≤ (escL l).length ∧ (escL l).length ≤ 2 * l.length := by
  induction l with
  | nil => simp [escL]
  | cons b l ih =>
    have e : escL (b :: l) = esc1 b ++ escL l := by simp [escL]
    rw [e, List.length_append]
    cases ha : alnB b.toNat <;> (simp only [esc1, ha, cond_true, cond_false, List.length_cons, List.length_nil]; omega)
def inL (l : List UInt8) : Bs := fun c => l.any (fun b => c == b.toNat)
theorem class_in {l : List UInt8} (h : l ≠ []) : ∃ f, classS (escL l ++ [93]) = (some f, []) ∧ ∀ c, f c = inL l c := by
  have h94 : headIs 94 (escL l ++ [93]) = false := by
    cases l with
    | nil => exact absurd rfl h
    | cons b l =>
      obtain ⟨x, q, e, hx⟩ := esc_head b (escL l ++ [93])
      have : escL (b :: l) ++ [93] = x :: q := by rw [← e]; simp [escL]
      rw [this]
      exact head_ne hx rfl (by decide)
  obtain ⟨f, h1, h2⟩ := cls_esc l ((escL l ++ [93]).length + 1) true noB (by have := escL_len l; simp; omega) (fun _ => h)
  exact ⟨f, by unfold classS; rw [h94]; exact h1, fun c => by rw [h2 c]; rfl⟩
theorem class_out {l : List UInt8} (h : l ≠ []) : ∃ f, classS (94 :: (escL l ++ [93])) = (some f, []) ∧ ∀ c, f c = !inL l c := by
  obtain ⟨f, h1, h2⟩ := cls_esc l (94 :: (escL l ++ [93])).length true noB (by have := escL_len l; simp; omega) (fun _ => h)
  refine ⟨notB f, ?_, fun c => by show (!f c) = _; rw [h2 c]; rfl⟩
  unfold classS
  rw [show headIs 94 (94 :: (escL l ++ [93])) = true from rfl]
  simp only [cond_true, List.drop_succ_cons, List.drop_zero]
  rw [h1]
/-- an expression that is one class. -/
theorem read_class {r : List UInt8} {f : Bs} (h : classS r = (some f, [])) : readS (91 :: r) = (.row (.cons (.leaf 1 (pairsS f)) .nil), ⟨[], 0, 0, false, false⟩) := by
  have ha : ∀ W, atomS W ⟨91 :: r, 0, 0, false, false⟩ = (.leaf 1 (pairsS f), ⟨[], 0, 0, false, false⟩) := fun W => by
    unfold atomS
    simp only
    rw [show ((91 : UInt8).toNat == 40) = false from rfl, show ((91 : UInt8).toNat == 94) = false from rfl, show ((91 : UInt8).toNat == 36) = false from rfl, show ((91 : UInt8).toNat == 46) = false from rfl, show ((91 : UInt8).toNat == 91) = true from rfl]
    simp only [cond_true, cond_false, h, setS]
  have hp : ∀ W, pieceS W ⟨91 :: r, 0, 0, false, false⟩ = (.leaf 1 (pairsS f), ⟨[], 0, 0, false, false⟩) := fun W => by
    unfold pieceS
    rw [ha]
    rfl
  have hr : ∀ W, rowP W ⟨91 :: r, 0, 0, false, false⟩ = (.row (.cons (.leaf 1 (pairsS f)) .nil), ⟨[], 0, 0, false, false⟩) := fun W => by
    unfold rowP
    simp only
    unfold rowS
    rw [show (endR (91 :: r)) = false from rfl]
    simp only [Bool.or_self, cond_false, hp]
    have : rowS W (91 :: r).length ⟨[], 0, 0, false, false⟩ = (.nil, ⟨[], 0, 0, false, false⟩) := by
      simp only [List.length_cons]
      unfold rowS
      rfl
    rw [this]
  unfold readS
  simp only [waysS]
  have hal : altS (waysS (91 :: r).length) ((91 :: r).length + 1) ⟨91 :: r, 0, 0, false, false⟩ = (.cons (.row (.cons (.leaf 1 (pairsS f)) .nil)) .nil, ⟨[], 0, 0, false, false⟩) := by
    unfold altS
    simp only [hr]
    rfl
  simp only [hal]
  rfl
theorem code_class {r : List UInt8} {f : Bs} (h : classS r = (some f, [])) : errX (91 :: r) = 0 ∧ codeX (91 :: r) = [⟨4, 0, 0, []⟩, ⟨1, 0, 0, pairsS f⟩, ⟨4, 1, 0, []⟩, ⟨7, 0, 0, []⟩] := by
  have := read_class h
  unfold errX codeX
  rw [this]
  exact ⟨rfl, by simp [Pc.lay, PcL.layR]⟩
end Go.Proofs.Ytpcmdijgepbilaa
namespace Go.Proofs.Ytpcmdijgepbilaa
set_option linter.unusedVariables false
set_option linter.unusedSimpArgs false
open Go.RowKit

theorem info_rinst : (Try.prog.info? 57).map (fun i => (i.zero, i.size, i.bytes)) = some (some (.agg #[.int .i64 0, .int .i64 0, .int .i64 0, .string ⟨#[]⟩]), 4, 40) := by kernel_rfl
/-- the slice's capacity is somewhere. -/
def HasCap (w : World) (R : Nat) (A : Option Addr) (n : Nat) : Prop := ∃ c, w.cell? ⟨R, 5, none⟩ = some (.slice A n c)
/-- the reference's reader, in block R: the text, how far it is, how deep, the error, the groups, what is laid. -/
structure RfC (w : World) (R : Nat) (s : ByteArray) (n d e g : Nat) (A : Option Addr) (code : List In) (c : Nat) : Prop where
  c0 : w.cell? ⟨R, 0, none⟩ = some (.string s)
  c1 : w.cell? ⟨R, 1, none⟩ = some (.int .i64 n)
  c2 : w.cell? ⟨R, 2, none⟩ = some (.int .i64 d)
  c3 : w.cell? ⟨R, 3, none⟩ = some (.int .i64 e)
  c4 : w.cell? ⟨R, 4, none⟩ = some (.int .i64 g)
  c5 : w.cell? ⟨R, 5, none⟩ = some (.slice A code.length c)
  f1 : w.frozen? ⟨R, 1, none⟩ = false
  f2 : w.frozen? ⟨R, 2, none⟩ = false
  f3 : w.frozen? ⟨R, 3, none⟩ = false
  f4 : w.frozen? ⟨R, 4, none⟩ = false
  f5 : w.frozen? ⟨R, 5, none⟩ = false
  own : w.ownsRow (R + 1) 57 4 (.slice A code.length c) code.length (icells code)
  lt : R < w.heap.size
def RfW (w : World) (R : Nat) (s : ByteArray) (n d e g : Nat) (A : Option Addr) (code : List In) : Prop := ∃ c, RfC w R s n d e g A code c
theorem RfW.setAt {w : World} {R n d e g : Nat} {s : ByteArray} {A : Option Addr} {code : List In} (h : RfW w R s n d e g A code) (n' : Nat) : RfW (w.setCell ⟨R, 1, none⟩ (.int .i64 n')) R s n' d e g A code := by
  obtain ⟨c, h⟩ := h
  refine ⟨c, (World.cell?_setCell_other w ⟨R, 1, none⟩ ⟨R, 0, none⟩ _ (by simp)).trans h.c0, ?_, (World.cell?_setCell_other w ⟨R, 1, none⟩ ⟨R, 2, none⟩ _ (by simp)).trans h.c2, (World.cell?_setCell_other w ⟨R, 1, none⟩ ⟨R, 3, none⟩ _ (by simp)).trans h.c3, (World.cell?_setCell_other w ⟨R, 1, none⟩ ⟨R, 4, none⟩ _ (by simp)).trans h.c4, (World.cell?_setCell_other w ⟨R, 1, none⟩ ⟨R, 5, none⟩ _ (by simp)).trans h.c5, by rw [World.frozen?_setCell]; exact h.f1, by rw [World.frozen?_setCell]; exact h.f2, by rw [World.frozen?_setCell]; exact h.f3, by rw [World.frozen?_setCell]; exact h.f4, by rw [World.frozen?_setCell]; exact h.f5, own_set h.own (p := ⟨R, 1, none⟩) (Nat.lt_succ_self _) _, by simpa using h.lt⟩
  have k1 := h.c1
  have k2 := h.f1
  go_simp
theorem RfW.setDeep {w : World} {R n d e g : Nat} {s : ByteArray} {A : Option Addr} {code : List In} (h : RfW w R s n d e g A code) (d' : Nat) : RfW (w.setCell ⟨R, 2, none⟩ (.int .i64 d')) R s n d' e g A code := by
  obtain ⟨c, h⟩ := h
  refine ⟨c, (World.cell?_setCell_other w ⟨R, 2, none⟩ ⟨R, 0, none⟩ _ (by simp)).trans h.c0, (World.cell?_setCell_other w ⟨R, 2, none⟩ ⟨R, 1, none⟩ _ (by simp)).trans h.c1, ?_, (World.cell?_setCell_other w ⟨R, 2, none⟩ ⟨R, 3, none⟩ _ (by simp)).trans h.c3, (World.cell?_setCell_other w ⟨R, 2, none⟩ ⟨R, 4, none⟩ _ (by simp)).trans h.c4, (World.cell?_setCell_other w ⟨R, 2, none⟩ ⟨R, 5, none⟩ _ (by simp)).trans h.c5, by rw [World.frozen?_setCell]; exact h.f1, by rw [World.frozen?_setCell]; exact h.f2, by rw [World.frozen?_setCell]; exact h.f3, by rw [World.frozen?_setCell]; exact h.f4, by rw [World.frozen?_setCell]; exact h.f5, own_set h.own (p := ⟨R, 2, none⟩) (Nat.lt_succ_self _) _, by simpa using h.lt⟩
  have k1 := h.c2
  have k2 := h.f2
  go_simp
theorem RfW.setErr {w : World} {R n d e g : Nat} {s : ByteArray} {A : Option Addr} {code : List In} (h : RfW w R s n d e g A code) (e' : Nat) : RfW (w.setCell ⟨R, 3, none⟩ (.int .i64 e')) R s n d e' g A code := by
  obtain ⟨c, h⟩ := h
  refine ⟨c, (World.cell?_setCell_other w ⟨R, 3, none⟩ ⟨R, 0, none⟩ _ (by simp)).trans h.c0, (World.cell?_setCell_other w ⟨R, 3, none⟩ ⟨R, 1, none⟩ _ (by simp)).trans h.c1, (World.cell?_setCell_other w ⟨R, 3, none⟩ ⟨R, 2, none⟩ _ (by simp)).trans h.c2, ?_, (World.cell?_setCell_other w ⟨R, 3, none⟩ ⟨R, 4, none⟩ _ (by simp)).trans h.c4, (World.cell?_setCell_other w ⟨R, 3, none⟩ ⟨R, 5, none⟩ _ (by simp)).trans h.c5, by rw [World.frozen?_setCell]; exact h.f1, by rw [World.frozen?_setCell]; exact h.f2, by rw [World.frozen?_setCell]; exact h.f3, by rw [World.frozen?_setCell]; exact h.f4, by rw [World.frozen?_setCell]; exact h.f5, own_set h.own (p := ⟨R, 3, none⟩) (Nat.lt_succ_self _) _, by simpa using h.lt⟩
  have k1 := h.c3
  have k2 := h.f3
  go_simp
theorem RfW.setGroups {w : World} {R n d e g : Nat} {s : ByteArray} {A : Option Addr} {code : List In} (h : RfW w R s n d e g A code) (g' : Nat) : RfW (w.setCell ⟨R, 4, none⟩ (.int .i64 g')) R s n d e g' A code := by
  obtain ⟨c, h⟩ := h
  refine ⟨c, (World.cell?_setCell_other w ⟨R, 4, none⟩ ⟨R, 0, none⟩ _ (by simp)).trans h.c0, (World.cell?_setCell_other w ⟨R, 4, none⟩ ⟨R, 1, none⟩ _ (by simp)).trans h.c1, (World.cell?_setCell_other w ⟨R, 4, none⟩ ⟨R, 2, none⟩ _ (by simp)).trans h.c2, (World.cell?_setCell_other w ⟨R, 4, none⟩ ⟨R, 3, none⟩ _ (by simp)).trans h.c3, ?_, (World.cell?_setCell_other w ⟨R, 4, none⟩ ⟨R, 5, none⟩ _ (by simp)).trans h.c5, by rw [World.frozen?_setCell]; exact h.f1, by rw [World.frozen?_setCell]; exact h.f2, by rw [World.frozen?_setCell]; exact h.f3, by rw [World.frozen?_setCell]; exact h.f4, by rw [World.frozen?_setCell]; exact h.f5, own_set h.own (p := ⟨R, 4, none⟩) (Nat.lt_succ_self _) _, by simpa using h.lt⟩
  have k1 := h.c4
  have k2 := h.f4
  go_simp
theorem RfW.lt {w : World} {R n d e g : Nat} {s : ByteArray} {A : Option Addr} {code : List In} (h : RfW w R s n d e g A code) : R < w.heap.size := h.choose_spec.lt
theorem RfW.row {w : World} {R n d e g : Nat} {s : ByteArray} {A : Option Addr} {code : List In} (h : RfW w R s n d e g A code) : ∀ k, blk A = some k → R < k ∧ k < w.heap.size := by
  obtain ⟨c, h⟩ := h
  intro k hk
  have := h.own.lt k (by
    cases A with
    | none => cases hk
    | some a => exact hk)
  omega
theorem RfW.kept {w w' : World} {R n d e g : Nat} {s : ByteArray} {A : Option Addr} {code : List In} (h : RfW w R s n d e g A code) (hs : w.heap.size ≤ w'.heap.size) (hb : w'.heap[R]? = w.heap[R]?) (hk : ∀ k, blk A = some k → w'.heap[k]? = w.heap[k]?) : RfW w' R s n d e g A code := by
  obtain ⟨c, h⟩ := h
  have hx : ∀ i, w'.cell? ⟨R, i, none⟩ = w.cell? ⟨R, i, none⟩ := fun i => World.cell?_of_block (a := ⟨R, i, none⟩) hb
  have hy : ∀ i, w'.frozen? ⟨R, i, none⟩ = w.frozen? ⟨R, i, none⟩ := fun i => World.frozen?_of_block (a := ⟨R, i, none⟩) hb
  refine ⟨c, (hx 0).trans h.c0, (hx 1).trans h.c1, (hx 2).trans h.c2, (hx 3).trans h.c3, (hx 4).trans h.c4, (hx 5).trans h.c5, (hy 1).trans h.f1, (hy 2).trans h.f2, (hy 3).trans h.f3, (hy 4).trans h.f4, (hy 5).trans h.f5, ?_, Nat.lt_of_lt_of_le h.lt hs⟩
  obtain ⟨k1, ⟨hv, k2⟩ | ⟨q, cap, cur, hv, hb', hh, k2⟩⟩ := h.own
  · exact ⟨k1, .inl ⟨hv, k2⟩⟩
  · refine ⟨k1, .inr ⟨q, cap, cur, hv, hb', (hk q ?_).trans hh, k2⟩⟩
    injection hv with hv1
    rw [hv1]; rfl
theorem RfW.gr {w w' : World} {R n d e g : Nat} {s : ByteArray} {A : Option Addr} {code : List In} (h : RfW w R s n d e g A code) (x : Gr w w') : RfW w' R s n d e g A code :=
  h.kept x.size (Below.block x R h.lt) fun k hk => Below.block x k (h.row k hk).2

/-- instructions, so many places further. -/
def mvI (by_ : Int) (v : In) : In := ⟨v.op, bif v.op == 2 || v.op == 3 then v.x + by_ else v.x, bif v.op == 2 then v.y + by_ else v.y, v.ps⟩
def mvL (by_ : Int) (l : List In) : List In := l.map (mvI by_)
theorem mvI_mvI (a b : Int) (v : In) : mvI b (mvI a v) = mvI (a + b) v := by
  unfold mvI
  cases (v.op == 2 || v.op == 3) <;> cases (v.op == 2) <;> simp <;> omega
theorem mvL_mvL (a b : Int) (l : List In) : mvL b (mvL a l) = mvL (a + b) l := by
  unfold mvL; rw [List.map_map]; apply List.map_congr_left; intro v _; exact mvI_mvI a b v
theorem mvL_app (a : Int) (l m : List In) : mvL a (l ++ m) = mvL a l ++ mvL a m := by simp [mvL]
theorem mvL_len (a : Int) (l : List In) : (mvL a l).length = l.length := by simp [mvL]
mutual
theorem Pc.mv (k : Nat) : ∀ (p : Pc), p.ok → ∀ a : Nat, mvL k (p.lay a) = p.lay (a + k)
  | .leaf op ps, h, a => by
    simp only [Pc.ok] at h
    simp only [Pc.lay, mvL, List.map_cons, List.map_nil]
    rcases h with rfl | rfl | rfl <;> rfl
  | .row l, h, a => by simp only [Pc.ok] at h; simp only [Pc.lay]; exact PcL.mvR k l h.2 a
  | .ways l, h, a => by
    simp only [Pc.ok] at h
    simp only [Pc.lay]
    rw [PcL.mvW k l h.2.2 a]
    congr 1
    omega
  | .group g p, h, a => by
    simp only [Pc.ok] at h
    simp only [Pc.lay]
    have ih := Pc.mv k p h.2
    cases (g == 0)
    · simp only [cond_false]
      rw [show a + k + 1 = a + 1 + k by omega, ← ih (a + 1)]
      simp [mvL, mvI]
    · simp only [cond_true]; exact ih a
  | .rep op z p, h, a => by
    simp only [Pc.ok] at h
    have ih := Pc.mv k p h.2
    simp only [Pc.lay]
    have e1 : a + k + 1 = a + 1 + k := by omega
    cases (op == 42)
    · cases (op == 43)
      · simp only [cond_false]
        rw [e1, ← ih (a + 1)]
        cases z <;> (simp [mvL, mvI, splitI]; omega)
      · simp only [cond_true, cond_false]
        rw [← ih a]
        cases z <;> (simp [mvL, mvI, splitI]; omega)
    · simp only [cond_true]
      rw [e1, ← ih (a + 1)]
      cases z <;> (simp [mvL, mvI, splitI]; omega)
theorem PcL.mvR (k : Nat) : ∀ (l : PcL), l.ok → ∀ a : Nat, mvL k (l.layR a) = l.layR (a + k)
  | .nil, h, a => rfl
  | .cons p l, h, a => by
    simp only [PcL.ok] at h
    simp only [PcL.layR]
    rw [mvL_app, Pc.mv k p h.1 a, PcL.mvR k l h.2 (a + p.sz), show a + k + p.sz = a + p.sz + k by omega]
theorem PcL.mvW (k : Nat) : ∀ (l : PcL), l.ok → ∀ a e : Nat, mvL k (l.layW a e) = l.layW (a + k) (e + k)
  | .nil, h, a, e => rfl
  | .cons p .nil, h, a, e => by
    simp only [PcL.ok] at h
    simp only [PcL.layW]
    exact Pc.mv k p h.1 a
  | .cons p (.cons q l), h, a, e => by
    simp only [PcL.ok] at h
    have ih := PcL.mvW k (.cons q l) h.2 (a + p.sz + 2) e
    simp only [PcL.layW]
    rw [show a + k + 1 = a + 1 + k by omega, show a + k + p.sz + 2 = a + p.sz + 2 + k by omega, ← Pc.mv k p h.1 (a + 1), ← ih]
    simp [mvL, mvI]
    omega
end
theorem lone_lay (l : PcL) (a : Nat) : (lone l).lay a = l.layW a (a + l.szW) := by
  match l with
  | .nil => rfl
  | .cons p .nil => rfl
  | .cons p (.cons q l) => rfl
end Go.Proofs.Ytpcmdijgepbilaa
namespace Go.Proofs.Ytpcmdijgepbilaa
set_option linter.unusedVariables false
set_option linter.unusedSimpArgs false
open Go.RowKit

set_option maxRecDepth 100000 in
set_option maxHeartbeats 3200000 in
theorem more_end {w : World} {R n d e g : Nat} {s : ByteArray} {A : Option Addr} {code : List In} (h : RfW w R s n d e g A code) (hs : (s.size : Int) ≤ 4096) (c : Nat) (hn : ¬ n < s.size) :
    Calls Try.prog 24 #[.pointer (some ⟨R, 0, none⟩), .int .u8 c] w fun x w' => x = .returned (.bool false) ∧ Gr w w' := by
  obtain ⟨cc, h⟩ := h
  obtain ⟨c0, c1⟩ := And.intro h.c0 h.c1
  have hz := h.lt
  clear h
  have hn1 : decide (n < s.size) = false := by simp; omega
  clear hn
  go_enter Try.func24, Try.ntmps24
  go_upto_region 1 with (fail)
  refine region_R (by kernel_rfl) (by kernel_rfl) ?_
  refine r_val (v := ?qv1) (by kernel_rfl) (fun W hW => ?qh1) ?qr1
  case qh1 =>
    go_light
    go_simp
    rfl
  simp only [Act.put, List.setIfInBounds_toArray, List.set_cons_zero, List.set_cons_succ]
  refine r_val (v := ?qv2) (by kernel_rfl) (fun W hW => ?qh2) ?qr2
  case qh2 =>
    go_light
    go_simp
    rfl
  simp only [Act.put, List.setIfInBounds_toArray, List.set_cons_zero, List.set_cons_succ]
  refine r_val (v := ?qv3) (by kernel_rfl) (fun W hW => ?qh3) ?qr3
  case qh3 =>
    go_light
    go_simp
    rfl
  simp only [Act.put, List.setIfInBounds_toArray, List.set_cons_zero, List.set_cons_succ]
  refine r_val (v := ?qv4) (by kernel_rfl) (fun W hW => ?qh4) ?qr4
  case qh4 =>
    have q1 := (Below.cell hW (p := ⟨R, 1, none⟩) hz).trans c1
    go_light
    go_simp
    rfl
  simp only [Act.put, List.setIfInBounds_toArray, List.set_cons_zero, List.set_cons_succ]
  refine r_val (v := ?qv5) (by kernel_rfl) (fun W hW => ?qh5) ?qr5
  case qh5 =>
    go_light
    go_simp
    rfl
  simp only [Act.put, List.setIfInBounds_toArray, List.set_cons_zero, List.set_cons_succ]
  refine r_val (v := ?qv6) (by kernel_rfl) (fun W hW => ?qh6) ?qr6
  case qh6 =>
    go_light
    go_simp
    rfl
  simp only [Act.put, List.setIfInBounds_toArray, List.set_cons_zero, List.set_cons_succ]
  refine r_val (v := ?qv7) (by kernel_rfl) (fun W hW => ?qh7) ?qr7
  case qh7 =>
    go_light
    go_simp
    rfl
  simp only [Act.put, List.setIfInBounds_toArray, List.set_cons_zero, List.set_cons_succ]
  refine r_val (v := ?qv8) (by kernel_rfl) (fun W hW => ?qh8) ?qr8
  case qh8 =>
    have q0 := (Below.cell hW (p := ⟨R, 0, none⟩) hz).trans c0
    go_light
    go_simp
    rfl
  simp only [Act.put, List.setIfInBounds_toArray, List.set_cons_zero, List.set_cons_succ]
  refine r_val (v := ?qv9) (by kernel_rfl) (fun W hW => ?qh9) ?qr9
  case qh9 =>
    go_light
    go_simp
    rfl
  simp only [Act.put, List.setIfInBounds_toArray, List.set_cons_zero, List.set_cons_succ]
  refine r_val (v := ?qv10) (by kernel_rfl) (fun W hW => ?qh10) ?qr10
  case qh10 =>
    go_light
    go_simp
    rfl
  simp only [Act.put, List.setIfInBounds_toArray, List.set_cons_zero, List.set_cons_succ]
  refine r_val (v := ?qv11) (by kernel_rfl) (fun W hW => ?qh11) ?qr11
  case qh11 =>
    go_light
    go_simp
    rfl
  simp only [Act.put, List.setIfInBounds_toArray, List.set_cons_zero, List.set_cons_succ]
  refine r_skip (by kernel_rfl) ?_
  simp only [Act.put, List.setIfInBounds_toArray, List.set_cons_zero, List.set_cons_succ]
  refine r_skip (by kernel_rfl) ?_
  simp only [Act.put, List.setIfInBounds_toArray, List.set_cons_zero, List.set_cons_succ]
  refine r_skip (by kernel_rfl) ?_
  simp only [Act.put, List.setIfInBounds_toArray, List.set_cons_zero, List.set_cons_succ]
  refine r_skip (by kernel_rfl) ?_
  simp only [Act.put, List.setIfInBounds_toArray, List.set_cons_zero, List.set_cons_succ]
  refine r_skip (by kernel_rfl) ?_
  simp only [Act.put, List.setIfInBounds_toArray, List.set_cons_zero, List.set_cons_succ]
  refine r_skip (by kernel_rfl) ?_
  simp only [Act.put, List.setIfInBounds_toArray, List.set_cons_zero, List.set_cons_succ]
  refine r_skip (by kernel_rfl) ?_
  simp only [Act.put, List.setIfInBounds_toArray, List.set_cons_zero, List.set_cons_succ]
  refine r_skip (by kernel_rfl) ?_
  simp only [Act.put, List.setIfInBounds_toArray, List.set_cons_zero, List.set_cons_succ]
  refine r_skip (by kernel_rfl) ?_
  simp only [Act.put, List.setIfInBounds_toArray, List.set_cons_zero, List.set_cons_succ]
  refine r_skip (by kernel_rfl) ?_
  simp only [Act.put, List.setIfInBounds_toArray, List.set_cons_zero, List.set_cons_succ]
  refine r_skip (by kernel_rfl) ?_
  simp only [Act.put, List.setIfInBounds_toArray, List.set_cons_zero, List.set_cons_succ]
  refine r_val (v := ?qv12) (by kernel_rfl) (fun W hW => ?qh12) ?qr12
  case qh12 =>
    go_light
    go_simp
    rfl
  simp only [Act.put, List.setIfInBounds_toArray, List.set_cons_zero, List.set_cons_succ]
  refine r_val (v := ?qv13) (by kernel_rfl) (fun W hW => ?qh13) ?qr13
  case qh13 =>
    go_light
    go_simp
    rfl
  simp only [Act.put, List.setIfInBounds_toArray, List.set_cons_zero, List.set_cons_succ]
  refine r_nil ?_
  intro w1 hw1
  go_wp2
  go_ret
  exact ⟨rfl, hw1⟩
set_option maxRecDepth 100000 in
set_option maxHeartbeats 3200000 in
theorem more_yes {w : World} {R n d e g : Nat} {s : ByteArray} {A : Option Addr} {code : List In} (h : RfW w R s n d e g A code) (hs : (s.size : Int) ≤ 4096) (c : Nat) (hn : n < s.size) (hc : s[n].toNat = c) :
    Calls Try.prog 24 #[.pointer (some ⟨R, 0, none⟩), .int .u8 c] w fun x w' => x = .returned (.bool true) ∧ Gr w w' := by
  obtain ⟨cc, h⟩ := h
  obtain ⟨c0, c1⟩ := And.intro h.c0 h.c1
  have hz := h.lt
  clear h
  have hn1 : decide (n < s.size) = true := by simp; omega
  have hn2 : (n : Int) < (s.size : Int) := by omega
  subst hc
  go_enter Try.func24, Try.ntmps24
  go_upto_region 1 with (fail)
  refine region_R (by kernel_rfl) (by kernel_rfl) ?_
  refine r_val (v := ?qv14) (by kernel_rfl) (fun W hW => ?qh14) ?qr14
  case qh14 =>
    go_light
    go_simp
    rfl
  simp only [Act.put, List.setIfInBounds_toArray, List.set_cons_zero, List.set_cons_succ]
  refine r_val (v := ?qv15) (by kernel_rfl) (fun W hW => ?qh15) ?qr15
  case qh15 =>
    go_light
    go_simp
    rfl
  simp only [Act.put, List.setIfInBounds_toArray, List.set_cons_zero, List.set_cons_succ]
  refine r_val (v := ?qv16) (by kernel_rfl) (fun W hW => ?qh16) ?qr16
  case qh16 =>
    go_light
    go_simp
    rfl
  simp only [Act.put, List.setIfInBounds_toArray, List.set_cons_zero, List.set_cons_succ]
  refine r_val (v := ?qv17) (by kernel_rfl) (fun W hW => ?qh17) ?qr17
  case qh17 =>
    have q1 := (Below.cell hW (p := ⟨R, 1, none⟩) hz).trans c1
    go_light
    go_simp
    rfl
  simp only [Act.put, List.setIfInBounds_toArray, List.set_cons_zero, List.set_cons_succ]
  refine r_val (v := ?qv18) (by kernel_rfl) (fun W hW => ?qh18) ?qr18
  case qh18 =>
    go_light
    go_simp
    rfl
  simp only [Act.put, List.setIfInBounds_toArray, List.set_cons_zero, List.set_cons_succ]
  refine r_val (v := ?qv19) (by kernel_rfl) (fun W hW => ?qh19) ?qr19
  case qh19 =>
    go_light
    go_simp
    rfl
  simp only [Act.put, List.setIfInBounds_toArray, List.set_cons_zero, List.set_cons_succ]
  refine r_val (v := ?qv20) (by kernel_rfl) (fun W hW => ?qh20) ?qr20
  case qh20 =>
    go_light
    go_simp
    rfl
  simp only [Act.put, List.setIfInBounds_toArray, List.set_cons_zero, List.set_cons_succ]
  refine r_val (v := ?qv21) (by kernel_rfl) (fun W hW => ?qh21) ?qr21
  case qh21 =>
    have q0 := (Below.cell hW (p := ⟨R, 0, none⟩) hz).trans c0
    go_light
    go_simp
    rfl
  simp only [Act.put, List.setIfInBounds_toArray, List.set_cons_zero, List.set_cons_succ]
  refine r_val (v := ?qv22) (by kernel_rfl) (fun W hW => ?qh22) ?qr22
  case qh22 =>
    go_light
    go_simp
    rfl
  simp only [Act.put, List.setIfInBounds_toArray, List.set_cons_zero, List.set_cons_succ]
  refine r_val (v := ?qv23) (by kernel_rfl) (fun W hW => ?qh23) ?qr23
  case qh23 =>
    go_light
    go_simp
    rfl
  simp only [Act.put, List.setIfInBounds_toArray, List.set_cons_zero, List.set_cons_succ]
  refine r_val (v := ?qv24) (by kernel_rfl) (fun W hW => ?qh24) ?qr24
  case qh24 =>
    go_light
    go_simp
    rfl
  simp only [Act.put, List.setIfInBounds_toArray, List.set_cons_zero, List.set_cons_succ]
  refine r_val (v := ?qv25) (by kernel_rfl) (fun W hW => ?qh25) ?qr25
  case qh25 =>
    go_light
    go_simp
    rfl
  simp only [Act.put, List.setIfInBounds_toArray, List.set_cons_zero, List.set_cons_succ]
  refine r_val (v := ?qv26) (by kernel_rfl) (fun W hW => ?qh26) ?qr26
  case qh26 =>
    go_light
    go_simp
    rfl
  simp only [Act.put, List.setIfInBounds_toArray, List.set_cons_zero, List.set_cons_succ]
  refine r_val (v := ?qv27) (by kernel_rfl) (fun W hW => ?qh27) ?qr27
  case qh27 =>
    go_light
    go_simp
    rfl
  simp only [Act.put, List.setIfInBounds_toArray, List.set_cons_zero, List.set_cons_succ]
  refine r_val (v := ?qv28) (by kernel_rfl) (fun W hW => ?qh28) ?qr28
  case qh28 =>
    have q0 := (Below.cell hW (p := ⟨R, 0, none⟩) hz).trans c0
    go_light
    go_simp
    rfl
  simp only [Act.put, List.setIfInBounds_toArray, List.set_cons_zero, List.set_cons_succ]
  refine r_val (v := ?qv29) (by kernel_rfl) (fun W hW => ?qh29) ?qr29
  case qh29 =>
    go_light
    go_simp
    rfl
  simp only [Act.put, List.setIfInBounds_toArray, List.set_cons_zero, List.set_cons_succ]
  refine r_val (v := ?qv30) (by kernel_rfl) (fun W hW => ?qh30) ?qr30
  case qh30 =>
    go_light
    go_simp
    rfl
  simp only [Act.put, List.setIfInBounds_toArray, List.set_cons_zero, List.set_cons_succ]
  refine r_val (v := ?qv31) (by kernel_rfl) (fun W hW => ?qh31) ?qr31
  case qh31 =>
    go_light
    go_simp
    rfl
  simp only [Act.put, List.setIfInBounds_toArray, List.set_cons_zero, List.set_cons_succ]
  refine r_val (v := ?qv32) (by kernel_rfl) (fun W hW => ?qh32) ?qr32
  case qh32 =>
    have q1 := (Below.cell hW (p := ⟨R, 1, none⟩) hz).trans c1
    go_light
    go_simp
    rfl
  simp only [Act.put, List.setIfInBounds_toArray, List.set_cons_zero, List.set_cons_succ]
  refine r_val (v := ?qv33) (by kernel_rfl) (fun W hW => ?qh33) ?qr33
  case qh33 =>
    go_light
    go_simp
    rfl
  simp only [Act.put, List.setIfInBounds_toArray, List.set_cons_zero, List.set_cons_succ]
  refine r_val (v := ?qv34) (by kernel_rfl) (fun W hW => ?qh34) ?qr34
  case qh34 =>
    go_light
    go_simp
    rfl
  simp only [Act.put, List.setIfInBounds_toArray, List.set_cons_zero, List.set_cons_succ]
  refine r_val (v := ?qv35) (by kernel_rfl) (fun W hW => ?qh35) ?qr35
  case qh35 =>
    go_light
    go_simp
    rfl
  simp only [Act.put, List.setIfInBounds_toArray, List.set_cons_zero, List.set_cons_succ]
  refine r_val (v := ?qv36) (by kernel_rfl) (fun W hW => ?qh36) ?qr36
  case qh36 =>
    go_light
    go_simp
    rfl
  simp only [Act.put, List.setIfInBounds_toArray, List.set_cons_zero, List.set_cons_succ]
  refine r_val (v := ?qv37) (by kernel_rfl) (fun W hW => ?qh37) ?qr37
  case qh37 =>
    go_light
    go_simp
    rfl
  simp only [Act.put, List.setIfInBounds_toArray, List.set_cons_zero, List.set_cons_succ]
  refine r_nil ?_
  intro w1 hw1
  go_wp2
  go_ret
  exact ⟨rfl, hw1⟩
set_option maxRecDepth 100000 in
set_option maxHeartbeats 3200000 in
theorem more_no {w : World} {R n d e g : Nat} {s : ByteArray} {A : Option Addr} {code : List In} (h : RfW w R s n d e g A code) (hs : (s.size : Int) ≤ 4096) (c : Nat) (hn : n < s.size) (hc : s[n].toNat ≠ c) :
    Calls Try.prog 24 #[.pointer (some ⟨R, 0, none⟩), .int .u8 c] w fun x w' => x = .returned (.bool false) ∧ Gr w w' := by
  obtain ⟨cc, h⟩ := h
  obtain ⟨c0, c1⟩ := And.intro h.c0 h.c1
  have hz := h.lt
  clear h
  have hn1 : decide (n < s.size) = true := by simp; omega
  have hn2 : (n : Int) < (s.size : Int) := by omega
  have hq : ((s[n].toNat : Int) == (c : Int)) = false := beq_eq_false_iff_ne.2 (by omega)
  clear hc
  go_enter Try.func24, Try.ntmps24
  go_upto_region 1 with (fail)
  refine region_R (by kernel_rfl) (by kernel_rfl) ?_
  refine r_val (v := ?qv38) (by kernel_rfl) (fun W hW => ?qh38) ?qr38
  case qh38 =>
    go_light
    go_simp
    rfl
  simp only [Act.put, List.setIfInBounds_toArray, List.set_cons_zero, List.set_cons_succ]
  refine r_val (v := ?qv39) (by kernel_rfl) (fun W hW => ?qh39) ?qr39
  case qh39 =>
    go_light
    go_simp
    rfl
  simp only [Act.put, List.setIfInBounds_toArray, List.set_cons_zero, List.set_cons_succ]
  refine r_val (v := ?qv40) (by kernel_rfl) (fun W hW => ?qh40) ?qr40
  case qh40 =>
    go_light
    go_simp
    rfl
  simp only [Act.put, List.setIfInBounds_toArray, List.set_cons_zero, List.set_cons_succ]
  refine r_val (v := ?qv41) (by kernel_rfl) (fun W hW => ?qh41) ?qr41
  case qh41 =>
    have q1 := (Below.cell hW (p := ⟨R, 1, none⟩) hz).trans c1
    go_light
    go_simp
    rfl
  simp only [Act.put, List.setIfInBounds_toArray, List.set_cons_zero, List.set_cons_succ]
  refine r_val (v := ?qv42) (by kernel_rfl) (fun W hW => ?qh42) ?qr42
  case qh42 =>
    go_light
    go_simp
    rfl
  simp only [Act.put, List.setIfInBounds_toArray, List.set_cons_zero, List.set_cons_succ]
  refine r_val (v := ?qv43) (by kernel_rfl) (fun W hW => ?qh43) ?qr43
  case qh43 =>
    go_light
    go_simp
    rfl
  simp only [Act.put, List.setIfInBounds_toArray, List.set_cons_zero, List.set_cons_succ]
  refine r_val (v := ?qv44) (by kernel_rfl) (fun W hW => ?qh44) ?qr44
  case qh44 =>
    go_light
    go_simp
    rfl
  simp only [Act.put, List.setIfInBounds_toArray, List.set_cons_zero, List.set_cons_succ]
  refine r_val (v := ?qv45) (by kernel_rfl) (fun W hW => ?qh45) ?qr45
  case qh45 =>
    have q0 := (Below.cell hW (p := ⟨R, 0, none⟩) hz).trans c0
    go_light
    go_simp
    rfl
  simp only [Act.put, List.setIfInBounds_toArray, List.set_cons_zero, List.set_cons_succ]
  refine r_val (v := ?qv46) (by kernel_rfl) (fun W hW => ?qh46) ?qr46
  case qh46 =>
    go_light
    go_simp
    rfl
  simp only [Act.put, List.setIfInBounds_toArray, List.set_cons_zero, List.set_cons_succ]
  refine r_val (v := ?qv47) (by kernel_rfl) (fun W hW => ?qh47) ?qr47
  case qh47 =>
    go_light
    go_simp
    rfl
  simp only [Act.put, List.setIfInBounds_toArray, List.set_cons_zero, List.set_cons_succ]
  refine r_val (v := ?qv48) (by kernel_rfl) (fun W hW => ?qh48) ?qr48
  case qh48 =>
    go_light
    go_simp
    rfl
  simp only [Act.put, List.setIfInBounds_toArray, List.set_cons_zero, List.set_cons_succ]
  refine r_val (v := ?qv49) (by kernel_rfl) (fun W hW => ?qh49) ?qr49
  case qh49 =>
    go_light
    go_simp
    rfl
  simp only [Act.put, List.setIfInBounds_toArray, List.set_cons_zero, List.set_cons_succ]
  refine r_val (v := ?qv50) (by kernel_rfl) (fun W hW => ?qh50) ?qr50
  case qh50 =>
    go_light
    go_simp
    rfl
  simp only [Act.put, List.setIfInBounds_toArray, List.set_cons_zero, List.set_cons_succ]
  refine r_val (v := ?qv51) (by kernel_rfl) (fun W hW => ?qh51) ?qr51
  case qh51 =>
    go_light
    go_simp
    rfl
  simp only [Act.put, List.setIfInBounds_toArray, List.set_cons_zero, List.set_cons_succ]
  refine r_val (v := ?qv52) (by kernel_rfl) (fun W hW => ?qh52) ?qr52
  case qh52 =>
    have q0 := (Below.cell hW (p := ⟨R, 0, none⟩) hz).trans c0
    go_light
    go_simp
    rfl
  simp only [Act.put, List.setIfInBounds_toArray, List.set_cons_zero, List.set_cons_succ]
  refine r_val (v := ?qv53) (by kernel_rfl) (fun W hW => ?qh53) ?qr53
  case qh53 =>
    go_light
    go_simp
    rfl
  simp only [Act.put, List.setIfInBounds_toArray, List.set_cons_zero, List.set_cons_succ]
  refine r_val (v := ?qv54) (by kernel_rfl) (fun W hW => ?qh54) ?qr54
  case qh54 =>
    go_light
    go_simp
    rfl
  simp only [Act.put, List.setIfInBounds_toArray, List.set_cons_zero, List.set_cons_succ]
  refine r_val (v := ?qv55) (by kernel_rfl) (fun W hW => ?qh55) ?qr55
  case qh55 =>
    go_light
    go_simp
    rfl
  simp only [Act.put, List.setIfInBounds_toArray, List.set_cons_zero, List.set_cons_succ]
  refine r_val (v := ?qv56) (by kernel_rfl) (fun W hW => ?qh56) ?qr56
  case qh56 =>
    have q1 := (Below.cell hW (p := ⟨R, 1, none⟩) hz).trans c1
    go_light
    go_simp
    rfl
  simp only [Act.put, List.setIfInBounds_toArray, List.set_cons_zero, List.set_cons_succ]
  refine r_val (v := ?qv57) (by kernel_rfl) (fun W hW => ?qh57) ?qr57
  case qh57 =>
    go_light
    go_simp
    rfl
  simp only [Act.put, List.setIfInBounds_toArray, List.set_cons_zero, List.set_cons_succ]
  refine r_val (v := ?qv58) (by kernel_rfl) (fun W hW => ?qh58) ?qr58
  case qh58 =>
    go_light
    go_simp
    rfl
  simp only [Act.put, List.setIfInBounds_toArray, List.set_cons_zero, List.set_cons_succ]
  refine r_val (v := ?qv59) (by kernel_rfl) (fun W hW => ?qh59) ?qr59
  case qh59 =>
    go_light
    go_simp
    rfl
  simp only [Act.put, List.setIfInBounds_toArray, List.set_cons_zero, List.set_cons_succ]
  refine r_val (v := ?qv60) (by kernel_rfl) (fun W hW => ?qh60) ?qr60
  case qh60 =>
    go_light
    go_simp
    rfl
  simp only [Act.put, List.setIfInBounds_toArray, List.set_cons_zero, List.set_cons_succ]
  refine r_val (v := ?qv61) (by kernel_rfl) (fun W hW => ?qh61) ?qr61
  case qh61 =>
    go_light
    go_simp
    rfl
  simp only [Act.put, List.setIfInBounds_toArray, List.set_cons_zero, List.set_cons_succ]
  refine r_nil ?_
  intro w1 hw1
  go_wp2
  go_ret
  exact ⟨rfl, hw1⟩
theorem more_any {w : World} {R n d e g : Nat} {s : ByteArray} {A : Option Addr} {code : List In} (h : RfW w R s n d e g A code) (hs : (s.size : Int) ≤ 4096) (c : Nat) :
    Calls Try.prog 24 #[.pointer (some ⟨R, 0, none⟩), .int .u8 c] w fun x w' => x = .returned (.bool (headIs c (s.data.toList.drop n))) ∧ Gr w w' := by
  by_cases hn : n < s.size
  · have hl : n < s.data.toList.length := by simpa using hn
    have e : headIs c (s.data.toList.drop n) = (s[n].toNat == c) := by rw [List.drop_eq_getElem_cons hl]; rfl
    rw [e]
    by_cases hc : s[n].toNat = c
    · rw [beq_iff_eq.2 hc]; exact more_yes h hs c hn hc
    · rw [beq_eq_false_iff_ne.2 hc]; exact more_no h hs c hn hc
  · have e : s.data.toList.drop n = [] := List.drop_eq_nil_of_le (by simp; omega)
    rw [e]
    exact more_end h hs c hn

set_option maxRecDepth 100000 in
set_option maxHeartbeats 3200000 in
theorem bad_new {w : World} {R n d e g : Nat} {s : ByteArray} {A : Option Addr} {code : List In} (h : RfW w R s n d e g A code) (e2 : Nat) (he : e = 0) : Calls Try.prog 18 #[.pointer (some ⟨R, 0, none⟩), .int .i64 e2] w fun x w' => x = .returned (.tuple #[]) ∧ w' = w.setCell ⟨R, 3, none⟩ (.int .i64 e2) := by
  subst he
  obtain ⟨cc, h⟩ := h
  obtain ⟨c3, f3⟩ := And.intro h.c3 h.f3
  clear h
  go_enter Try.func18, Try.ntmps18
  go_wp2
  go_end0
  exact ⟨rfl, rfl⟩
end Go.Proofs.Ytpcmdijgepbilaa
