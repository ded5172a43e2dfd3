/- Where an archive begins: whead.Offset. · Maps of at most one entry, keyed by a string: look up, update, range. No program in sight. · A file system whose one name is "a": what it is in memory, its frame; isName, total, find, Size. · bytes.HasPrefix, bytes.Clone at rows of bytes. · find, Size, Read of a file system whose one name is "a". · A region that draws its order and ends in one operation (number z: a store) for which all others wait: what its loads read (S) need not hold behind that last one. Derived/OrdersHeld.lean's law in that make. No program in sight. -/
import Derived.Test.YtoncapkmaeghfaaRunWhChk
import Derived.Maps.Own
import Derived.Maps.OwnSet
import Derived.Maps.RangeRun
import Derived.WalkKit
import Derived.Test.YtoncapkmaeghfaaRunFxBase
import Derived.Test.YtoncapkmaeghfaaRunWhSpec
import Derived.Deep.Cut
import Derived.Deep.CutRange
import Derived.Test.YtoncapkmaeghfaaWhShelf
import Derived.OrdersHeld
import Derived.Deep.RegionHeld
import Derived.StillTail
namespace Go.Proofs.Ytoncapkmaeghfaa
set_option linter.unusedVariables false
set_option linter.unusedSimpArgs false
open Go.RowKit

/-- where an archive begins. -/
def offS (m : List (Nat × Nat)) (i : Nat) : Nat := 16 + 12 * m.length + 12 * ((m.take i).map fun a => a.2).sum
theorem offS_succ {m : List (Nat × Nat)} {i : Nat} (h : i < m.length) : offS m (i + 1) = offS m i + 12 * m[i].2 := by
 unfold offS
 rw [List.take_succ_eq_append_getElem h, List.map_append, List.sum_append]
 simp only [List.map_cons, List.map_nil, List.sum_cons, List.sum_nil]
 omega
theorem sizeS_eq (m : List (Nat × Nat)) : sizeS m = 16 + 12 * m.length + 12 * (m.map fun a => a.2).sum := by
 unfold sizeS
 induction m with
 | nil => rfl
 | cons a r ih =>
  simp only [List.map_cons, List.sum_cons, List.length_cons] at ih ⊢
  omega
theorem offS_len (m : List (Nat × Nat)) : offS m m.length = sizeS m := by rw [sizeS_eq, offS, List.take_length]
theorem offS_mono {m : List (Nat × Nat)} : ∀ {j i : Nat}, i ≤ j → j ≤ m.length → offS m i ≤ offS m j
 | 0, i, h, _ => by rw [Nat.le_zero.1 h]; exact Nat.le_refl _
 | j + 1, i, h, hj => by
  rcases Nat.lt_or_ge j i with h1 | h1
  ·
   rw [show i = j + 1 by omega]; exact Nat.le_refl _
  ·
   rw [offS_succ (show j < m.length by omega)]
   have := offS_mono (m := m) h1 (by omega)
   omega
theorem offS_le {m : List (Nat × Nat)} {i : Nat} (h : i ≤ m.length) : offS m i ≤ sizeS m := by rw [← offS_len]; exact offS_mono h (Nat.le_refl _)
set_option maxRecDepth 100000 in
set_option maxHeartbeats 6400000 in
theorem offset_any (ag xf : Int) (A : Option Addr) (c : Nat) (m : List (Nat × Nat)) (hM : mayH ag xf (ints m) = true) (hcap : m.length ≤ c) (i : Nat) (hi : i < m.length) (w : World) (hr : Ri w A (ints m)) : Calls Try.prog 30 #[.agg #[.int .i64 ag, .int .i64 xf, .slice A m.length c], .int .i64 i] w fun e w' => e = .returned (.int .i64 (offS m i : Nat)) ∧ Gr w w' := by
 obtain ⟨l, hl⟩ : ∃ l, l = ints m := ⟨_, rfl⟩
 have hnm := nats_ints m
 have hf := mayS_facts (m := m) (by rw [← hnm]; have h := hM; unfold mayH at h; rw [Bool.and_eq_true] at h; exact h.2)
 have hll : l.length ≤ 400 := by rw [hl, ints_len]; omega
 have hml : m.length = l.length := by rw [hl, ints_len]
 rw [← hl] at hM hr
 rw [hml]
 obtain ⟨V, hV⟩ : ∃ V, V = w.alloc (.cells #[.int .i64 ag, .int .i64 xf, .slice A l.length c] 24) := ⟨_, rfl⟩
 have gV : Gr w V := by rw [hV]; exact Gr.alloc (Gr.refl w) _
 have hz : w.heap.size < V.heap.size := by rw [hV]; simp
 have c0 : V.cell? ⟨w.heap.size, 0, none⟩ = some (.int .i64 ag) := by rw [hV]; go_simp
 have c1 : V.cell? ⟨w.heap.size, 1, none⟩ = some (.int .i64 xf) := by rw [hV]; go_simp
 have c2 : V.cell? ⟨w.heap.size, 2, none⟩ = some (.slice A l.length c) := by rw [hV]; go_simp
 have HV := Lib.hid hV
 have HG := Lib.hid gV
 have HR := Lib.hid (hr.gr gV)
 have hck := fun W (hW : Ri W A l) => whead_check ag xf A c l hll W hW
 clear hV gV hr
 rw [hM] at hck
 have HCK := Lib.hid hck
 have hin := fun W (hW : Ri W A l) (k : Nat) (hk : k < m.length) => (show ∃ b, A = some ⟨b, 0, none⟩ ∧ b < W.heap.size ∧ W.cell? ⟨b, k * 2 + 1, none⟩ = some (.int .i64 (m[k].2 : Nat)) ∧ W.cell? ⟨b, k * 2, none⟩ = some (.int .i64 (m[k].1 : Nat)) by
  obtain ⟨b, h1, h2, h3⟩ := hW (by omega)
  obtain ⟨p0, p1⟩ := h3 k (by omega)
  subst hl
  rw [ints_at m k hk] at p0 p1
  exact ⟨b, h1, h2, p1, p0⟩)
 have HIN := Lib.hid hin
 have hbd := Lib.hid hf.2.2.2.2
 have hszb : sizeS m ≤ 1048576 := hf.2.2.1
 have hle : ∀ k, k ≤ m.length → offS m k ≤ 1048576 := fun k h => Nat.le_trans (offS_le h) hszb
 have hsu : ∀ k (h : k < m.length), offS m (k + 1) = offS m k + 12 * m[k].2 := fun k h => offS_succ h
 have HLE := Lib.hid hle
 have HSU := Lib.hid hsu
 have h00 : offS m 0 = 16 + 12 * m.length := by simp [offS]
 have H00 := Lib.hid h00
 have hii : (i : Int) ≤ 8 := by omega
 have hil : ¬ (l.length : Int) ≤ (i : Int) := by omega
 have hil2 : (i : Int) ≤ (l.length : Int) := by omega
 have hiN : i ≤ l.length := by omega
 have hl8 : (l.length : Int) ≤ 8 := by omega
 have HC := Lib.hid (And.intro hi hml)
 obtain ⟨b, hAb, -, -⟩ := hin _ HR.out 0 (by omega)
 subst hAb
 have hci : (i : Int) ≤ (c : Int) := by omega
 have hci2 : i ≤ c := by omega
 clear hck hin hf hszb hle hsu h00 hM hi hcap hll hnm hl hml
 go_enter Try.func30, Try.ntmps30
 go_upto_region 1 with (fail)
 rw [← HV.out]
 clear HV
 go_wp2_with (go_at_call 33; refine (HCK.out _ HR.out).mono ?_; rintro e w1 ⟨rfl, g1⟩; have d0 := (Below.cell g1 (p := ⟨w.heap.size, 0, none⟩) hz).trans c0; have d1 := (Below.cell g1 (p := ⟨w.heap.size, 1, none⟩) hz).trans c1; have d2 := (Below.cell g1 (p := ⟨w.heap.size, 2, none⟩) hz).trans c2; have hz1 := Nat.lt_of_lt_of_le hz g1.size; have HG1 := Lib.hid (HG.out.trans g1); have HR1 := Lib.hid (HR.out.gr g1); clear c0 c1 c2 hz g1 HG HR)
 go_loopw [32, 5] (fun j n wr => ∃ k : Nat, k ≤ i ∧ j = .int .i64 k ∧ n = .int .i64 (offS m k : Nat) ∧ Gr w1 wr) (fun j _ _ => i - (intOf j).toNat)
 case atStart => exact ⟨0, Nat.zero_le _, rfl, by rw [H00.out, HC.out.2]; go_num, Gr.refl _⟩
 case round =>
  obtain ⟨k, hk, rfl, rfl, hgr⟩ := hrel
  by_cases hlt : k < i
  ·
   have hlt' : (k : Int) < (i : Int) := by omega
   obtain ⟨b2, hb2, hb, d1, d0⟩ := HIN.out _ (HR1.out.gr hgr) k (by have := HC.out; omega)
   injection hb2 with hb2
   injection hb2 with hb2 _ _
   subst hb2
   have hs := HSU.out k (by have := HC.out; omega)
   have hb1 := hbd.out k (by have := HC.out; omega)
   have hb3 := HLE.out (k + 1) (by have := HC.out; omega)
   have HS := Lib.hid hs
   have Hgr := Lib.hid hgr
   generalize (m[k]'(by have := HC.out; omega)).1 = x1 at *
   generalize (m[k]'(by have := HC.out; omega)).2 = x2 at *
   obtain ⟨N, hN⟩ : ∃ N, N = offS m k := ⟨_, rfl⟩
   rw [← hN] at HS ⊢
   have hNi : (N : Int) + 12 * (x2 : Int) ≤ 1048576 := by have := HS.out; omega
   have hx2 : (x2 : Int) ≤ 16777216 := by omega
   clear hs hb1 hb3 hgr hN
   go_wp2
   go_roundw
   case rel => exact ⟨k + 1, by omega, by go_num, by rw [HS.out]; go_num, (by repeat (first | exact Gr.refl _ | refine Gr.alloc ?_ _ | refine Gr.drew ?_ | refine Gr.setCell ?_ (by first | (simp; done) | (simp; omega) | omega) _ | refine Gr.trans ?_ (by assumption)))⟩
   case measure => simp [intOf]; omega
  ·
   have hkk : k = i := by omega
   subst hkk
   have HK := Lib.hid hgr
   clear hgr
   go_wp2
   go_ret
   exact ⟨rfl, HG1.out.trans HK.out⟩
end Go.Proofs.Ytoncapkmaeghfaa
namespace Go.Proofs.Ytoncapkmaeghfaa
set_option linter.unusedVariables false
set_option linter.unusedSimpArgs false
open Go Go.RowKit Go.ChangeMaps Go.WideShapes Go.MapKept Go.Maps Go.ChangeShapes

section
variable {P : Program} {w : World} {t kt e : TypeId}
theorem key_str (hk : P.underlying kt = some .string) (s : ByteArray) (hs : s.size ≤ maxLen) : ∃ kl, keyOf P kt (.string s) = some kl := by
 simp [keyOf, mapKey, hk, hs]
theorem look_none (ht : P.underlying t = some (.map kt e)) (K : Maps.Keyed P kt) {s : ByteArray} {kl : Lit} (hkey : keyOf P kt (.string s) = some kl) {z : Value} (hz : (zeroValue e).run P w = .ok z w) {b clk : Nat} (hb : w.heap[b]? = some (.map #[] clk)) (c : Bool) :
  (Instr.lookup t (.map (some b)) (.string s) c).run P w = .ok (if c then .tuple #[z, .bool false] else z) w := by
 rcases K.find w hkey [] (fun x hx => absurd hx (List.not_mem_nil)) with ⟨h1, h2⟩ | ⟨j, e0, h1, h2, h3⟩
 ·
  simp [Instr.lookup, run_underlying ht, MapKept.run_getObj_map hb, K.check w _ hkey, h1, hz, Result.andThen]
 ·
  simp at h2
theorem look_one (ht : P.underlying t = some (.map kt e)) (K : Maps.Keyed P kt) {s : ByteArray} {kl : Lit} (hkey : keyOf P kt (.string s) = some kl) {v : Value} {b clk n : Nat} (hb : w.heap[b]? = some (.map #[⟨.string s, v, n⟩] clk)) (c : Bool) :
  (Instr.lookup t (.map (some b)) (.string s) c).run P w = .ok (if c then .tuple #[v, .bool true] else v) w := by
 rcases K.find w hkey [⟨.string s, v, n⟩] (fun x hx => by rw [List.mem_singleton] at hx; subst hx; exact ⟨kl, hkey⟩) with ⟨h1, h2⟩ | ⟨j, e0, h1, h2, h3⟩
 ·
  exact absurd rfl (h2 _ (List.mem_singleton.2 rfl))
 ·
  have : e0 = ⟨.string s, v, n⟩ := by
   cases j with
   | zero => simpa using h2.symm
   | succ j => simp at h2
  subst this
  simp [Instr.lookup, run_underlying ht, MapKept.run_getObj_map hb, K.check w _ hkey, h1, Result.andThen]
theorem upd_none (ht : P.underlying t = some (.map kt e)) (K : Maps.Keyed P kt) {s : ByteArray} {kl : Lit} (hkey : keyOf P kt (.string s) = some kl) {b clk : Nat} (hb : w.heap[b]? = some (.map #[] clk)) (v : Value) :
  (Instr.mapUpdate t (.map (some b)) (.string s) v).run P w = .ok () (setBlock w b (.map #[⟨.string s, v, clk⟩] (clk + 1))) := by
 rcases K.find w hkey [] (fun x hx => absurd hx (List.not_mem_nil)) with ⟨h1, h2⟩ | ⟨j, e0, h1, h2, h3⟩
 ·
  simp [Instr.mapUpdate, run_underlying ht, MapKept.run_getObj_map hb, K.check w _ hkey, h1, Result.andThen, setObj, Sem.run, hb, setBlock]
 ·
  simp at h2
theorem upd_one (ht : P.underlying t = some (.map kt e)) (K : Maps.Keyed P kt) {s : ByteArray} {kl : Lit} (hkey : keyOf P kt (.string s) = some kl) {u : Value} {b clk n : Nat} (hb : w.heap[b]? = some (.map #[⟨.string s, u, n⟩] clk)) (v : Value) :
  (Instr.mapUpdate t (.map (some b)) (.string s) v).run P w = .ok () (setBlock w b (.map #[⟨.string s, v, n⟩] clk)) := by
 rcases K.find w hkey [⟨.string s, u, n⟩] (fun x hx => by rw [List.mem_singleton] at hx; subst hx; exact ⟨kl, hkey⟩) with ⟨h1, h2⟩ | ⟨j, e0, h1, h2, h3⟩
 ·
  exact absurd rfl (h2 _ (List.mem_singleton.2 rfl))
 ·
  have hj : j = 0 := by
   cases j with
   | zero => rfl
   | succ j => simp at h2
  subst hj
  have he : e0 = ⟨.string s, u, n⟩ := by simpa using h2.symm
  subst he
  have hst := K.stays w hkey
  simp [Instr.mapUpdate, run_underlying ht, MapKept.run_getObj_map hb, K.check w _ hkey, h1, hst, Result.andThen, setObj, Sem.run, hb, setBlock]
/-- 'range' over a map without entries: it ends at once. -/
theorem next_none (ty : TypeId) {r bm c0 clk : Nat} {seen : Array Nat} (hr : w.heap[r]? = some (.mapIter (some bm) c0 seen c0)) (hb : w.heap[bm]? = some (.map #[] clk)) : (Instr.next (.pointer (some ⟨r, 0, none⟩)) false ty).run P w = .ok (.tuple #[.bool false]) w := by
 rcases run_next_at (P := P) w ty r bm c0 c0 seen #[] clk hr hb (fun x hx => by simp at hx) (Nat.le_refl _) with ⟨-, h⟩ | ⟨x, hx, -⟩
 ·
  exact h
 ·
  simp [leftOf] at hx
end
end Go.Proofs.Ytoncapkmaeghfaa
namespace Go.Proofs.Ytoncapkmaeghfaa
set_option linter.unusedVariables false
set_option linter.unusedSimpArgs false
open Go.RowKit Go.ChangeMaps Go.Maps

def nmA : ByteArray := "a".toUTF8
/-- the files' map. -/
def MpA (w : World) (M : Nat) (Q : Nat → Prop) : Option (List UInt8) → Prop
 | none => ∃ clk, w.heap[M]? = some (.map #[] clk)
 | some l => ∃ clk born g c, w.heap[M]? = some (.map #[⟨.string nmA, .slice (some ⟨g, 0, none⟩) l.length c, born⟩] clk) ∧ l.length ≤ c ∧ Rb w (some ⟨g, 0, none⟩) l ∧ g < w.heap.size ∧ Q g
/-- a file system in blocks F (itself), P (what is pending), M (the files), its changes' row in block R. -/
structure FsM (Y : Nat → Prop) (w : World) (F P M : Nat) (R : Option Nat) (room : Int) (n : Nat) (D : Option (List UInt8)) : Prop where
 lf : F < w.heap.size
 lp : P < w.heap.size
 lm : M < w.heap.size
 nfp : F ≠ P
 nfm : F ≠ M
 npm : P ≠ M
 f0 : w.cell? ⟨F, 0, none⟩ = some (.pointer (some ⟨P, 0, none⟩))
 f1 : w.cell? ⟨F, 1, none⟩ = some (.int .i64 room)
 f2 : w.cell? ⟨F, 2, none⟩ = some (.map (some M))
 p0 : ∃ v xs, w.cell? ⟨P, 0, none⟩ = some v ∧ v.ownBlock = R ∧ w.ownsRow 0 92 4 v n xs
 p1 : ∃ y, w.cell? ⟨P, 1, none⟩ = some y
 z0 : w.frozen? ⟨P, 0, none⟩ = false
 z1 : w.frozen? ⟨P, 1, none⟩ = false
 rr : ∀ k, R = some k → k ≠ F ∧ k ≠ P ∧ k ≠ M
 yl : ∀ k, Y k → k < w.heap.size
 mp : MpA w M (fun g => g ≠ P ∧ g ≠ M ∧ R ≠ some g ∧ ¬ Y g) D
/-- what a change of it may touch. -/
def Tch (P M : Nat) (R : Option Nat) (k : Nat) : Prop := k = P ∨ k = M ∨ R = some k
theorem FsM.kp {w w' : World} {Y : Nat → Prop} {F P M : Nat} {R : Option Nat} {room : Int} {n : Nat} {D : Option (List UInt8)} {S : Nat → Prop} (h : FsM Y w F P M R room n D) (k : Kp S w w') (hF : ¬ S F) (hP : ¬ S P) (hM : ¬ S M) (hR : ∀ i, R = some i → ¬ S i) (hD : ∀ g, g < w.heap.size → S g → g = F ∨ g = P ∨ g = M ∨ R = some g ∨ w.heap.size ≤ g ∨ D = none ∨ Y g) : FsM Y w' F P M R room n D := by
 obtain ⟨v, xs, v1, v2, v3⟩ := h.p0
 obtain ⟨y, hy⟩ := h.p1
 refine ⟨Nat.lt_of_lt_of_le h.lf k.size, Nat.lt_of_lt_of_le h.lp k.size, Nat.lt_of_lt_of_le h.lm k.size, h.nfp, h.nfm, h.npm, (k.cell (a := ⟨F, 0, none⟩) h.lf hF).trans h.f0, (k.cell (a := ⟨F, 1, none⟩) h.lf hF).trans h.f1, (k.cell (a := ⟨F, 2, none⟩) h.lf hF).trans h.f2,
  ⟨v, xs, (k.cell (a := ⟨P, 0, none⟩) h.lp hP).trans v1, v2, k.own v3 (fun i hi => hR i (by rw [← v2]; exact hi))⟩, ⟨y, (k.cell (a := ⟨P, 1, none⟩) h.lp hP).trans hy⟩, (k.frozen (a := ⟨P, 0, none⟩) h.lp hP).trans h.z0, (k.frozen (a := ⟨P, 1, none⟩) h.lp hP).trans h.z1, h.rr, fun i hi => Nat.lt_of_lt_of_le (h.yl i hi) k.size, ?_⟩
 cases D with
 | none =>
  obtain ⟨clk, hb⟩ := h.mp
  exact ⟨clk, (k.block M h.lm hM).trans hb⟩
 | some l =>
  obtain ⟨clk, born, g, c, hb, hc, hr, hg, hq⟩ := h.mp
  have hgS : ¬ S g := fun hS => by
   rcases hD g hg hS with e | e | e | e | e | e | e
   ·
    exact hF (e ▸ hS)
   ·
    exact hq.1 e
   ·
    exact hq.2.1 e
   ·
    exact hq.2.2.1 e
   ·
    omega
   ·
    cases e
   ·
    exact hq.2.2.2 e
  exact ⟨clk, born, g, c, (k.block M h.lm hM).trans hb, hc, k.rd hr (fun _ ad e => by injection e with e; rw [← e]; exact hgS), Nat.lt_of_lt_of_le hg k.size, hq⟩
theorem FsM.gr {w w' : World} {Y : Nat → Prop} {F P M : Nat} {R : Option Nat} {room : Int} {n : Nat} {D : Option (List UInt8)} (h : FsM Y w F P M R room n D) (g : Gr w w') : FsM Y w' F P M R room n D :=
 h.kp (Kp.of_gr (fun _ => False) g) (fun h => h) (fun h => h) (fun h => h) (fun _ _ h => h) (fun _ _ h => h.elim)
set_option maxRecDepth 100000 in
set_option maxHeartbeats 6400000 in
theorem isName_any (s : ByteArray) (w : World) : Calls Try.prog 35 #[.string s] w fun e w' => e = .returned (.bool (decide (1 ≤ s.size) && decide (s.size ≤ 255))) ∧ w = w' := by
 by_cases h1 : 1 ≤ s.size
 ·
  have h1i : (1 : Int) ≤ (s.size : Int) := by omega
  by_cases h2 : s.size ≤ 255
  ·
   have h2i : (s.size : Int) ≤ 255 := by omega
   have HD : Hid ((decide (1 ≤ s.size) && decide (s.size ≤ 255)) = true) := Lib.hid (by rw [decide_eq_true h1, decide_eq_true h2]; rfl)
   clear h1 h2
   go_enter Try.func35, Try.ntmps35
   go_wp2
   go_ret
   exact ⟨ret_b (by rw [HD.out]), rfl⟩
  ·
   have h2i : ¬ (s.size : Int) ≤ 255 := by omega
   have HD : Hid ((decide (1 ≤ s.size) && decide (s.size ≤ 255)) = false) := Lib.hid (by rw [decide_eq_false h2, Bool.and_false])
   clear h1 h2
   go_enter Try.func35, Try.ntmps35
   go_wp2
   go_ret
   exact ⟨ret_b (by rw [HD.out]), rfl⟩
 ·
  have h1i : ¬ (1 : Int) ≤ (s.size : Int) := by omega
  have HD : Hid ((decide (1 ≤ s.size) && decide (s.size ≤ 255)) = false) := Lib.hid (by rw [decide_eq_false h1, Bool.false_and])
  clear h1
  go_enter Try.func35, Try.ntmps35
  go_wp2
  go_ret
  exact ⟨ret_b (by rw [HD.out]), rfl⟩
set_option maxRecDepth 100000 in
set_option maxHeartbeats 6400000 in
theorem total_any (b o n c : Nat) (ls : List (List UInt8)) (hn : ls.length = n) (hn9 : n ≤ 1000) (hs : (ls.map List.length).sum ≤ 1073741824) (w : World) (hc : ∀ k (h : k < ls.length), ∃ A d, w.cell? ⟨b, o + k, none⟩ = some (.slice A ls[k].length d)) :
  Calls Try.prog 36 #[.int .i64 1073741824, .slice (some ⟨b, o, none⟩) n c] w fun e w' => e = .returned (.int .i64 ((ls.map List.length).sum : Nat)) ∧ w = w' := by
 have hni : (n : Int) ≤ 1000 := by omega
 have hst : ∀ k (h : k < ls.length), ((ls.take (k + 1)).map List.length).sum = ((ls.take k).map List.length).sum + ls[k].length := fun k h => by
  rw [List.take_succ_eq_append_getElem h, List.map_append, List.sum_append]
  simp
 have hle : ∀ k, ((ls.take k).map List.length).sum ≤ (ls.map List.length).sum := fun k => by
  conv => rhs; rw [← List.take_append_drop k ls, List.map_append, List.sum_append]
  omega
 have HH := Lib.hid (And.intro hst (And.intro hle (And.intro hc (And.intro hs hn))))
 clear hst hle hc hs hn hn9
 go_enter Try.func36, Try.ntmps36
 go_wp2
 go_loopw [10, 5] (fun i v wr => ∃ k : Nat, k ≤ n ∧ i = .int .i64 k ∧ v = .int .i64 (((ls.take k).map List.length).sum : Nat) ∧ Gr w wr ∧ wr = w) (fun i _ _ => n - (intOf i).toNat)
 case atStart => exact ⟨0, Nat.zero_le _, rfl, rfl, Gr.refl _, by first | trivial | rfl⟩
 case round =>
  obtain ⟨k, hk, rfl, rfl, -, hww⟩ := hrel
  subst hww
  by_cases hlt : k < n
  ·
   have hlti : (k : Int) < (n : Int) := by omega
   have hkl : k < ls.length := by rw [HH.out.2.2.2.2]; exact hlt
   obtain ⟨A, d, cs⟩ := HH.out.2.2.1 k hkl
   have HS := Lib.hid (HH.out.1 k hkl)
   have hb1 := HH.out.2.1 (k + 1)
   have hb2 := HH.out.2.2.2.1
   rw [HS.out] at hb1
   generalize ls[k].length = X at *
   obtain ⟨T, hT⟩ : ∃ T, T = ((ls.take k).map List.length).sum := ⟨_, rfl⟩
   rw [← hT] at HS hb1 ⊢
   have hTi : (T : Int) + (X : Int) ≤ 1073741824 := by omega
   have hTX : ¬ (1073741824 : Int) - (T : Int) < (X : Int) := by omega
   clear hb1 hb2 hT hkl
   go_wp2
   go_roundw
   case rel => exact ⟨k + 1, by omega, by go_num, by rw [HS.out]; go_num, Gr.refl _, by first | trivial | rfl⟩
   case measure => simp [intOf]; omega
  ·
   have hkk : k = n := by omega
   subst hkk
   have HE : Hid (((ls.take k).map List.length).sum = (ls.map List.length).sum) := Lib.hid (by rw [List.take_of_length_le (by rw [HH.out.2.2.2.2]; exact Nat.le_refl _)])
   go_wp2
   go_ret
   exact ⟨ret_i (by rw [HE.out]), rfl⟩
end Go.Proofs.Ytoncapkmaeghfaa
namespace Go.Proofs.Ytoncapkmaeghfaa
set_option linter.unusedVariables false
set_option linter.unusedSimpArgs false
open Go.RowKit

def nums (l : List UInt8) : List Int := l.map fun b => (b.toNat : Int)
theorem nums_len (l : List UInt8) : (nums l).length = l.length := by simp [nums]
theorem nums_bytes (l : List UInt8) : Lib.bytesOf (nums l) = l := by
 unfold Lib.bytesOf nums
 rw [List.map_map]
 conv => rhs; rw [← List.map_id l]
 apply List.map_congr_left
 intro b _
 simp
theorem nums_bys (l : List UInt8) : (nums l).map (Value.int .u8) = bys l := by
 unfold nums bys
 rw [List.map_map]
 rfl
theorem nums_at (l : List UInt8) (i : Nat) (h : i < l.length) : (nums l).getD i 0 = (l[i].toNat : Int) := by
 unfold nums
 rw [List.getD_eq_getElem?_getD, List.getElem?_map, List.getElem?_eq_getElem h]
 rfl
theorem Rb.nums {w : World} {A : Option Addr} {l : List UInt8} (h : Rb w A l) : Lib.BytesIn w A l.length (nums l) := by
 rcases Nat.eq_zero_or_pos l.length with h0 | h0
 ·
  rw [h0]; exact Lib.BytesIn.nil _ _ _
 ·
  obtain ⟨ad, e, hb, hc⟩ := h.2 h0
  subst e
  exact Lib.BytesIn.of_cells fun i hi => by rw [nums_at l i hi]; exact hc i _ (bys_at l i hi)
theorem prefix_any (A B : Option Addr) (c d : Nat) (l p : List UInt8) (w : World) (hl : Rb w A l) (hp : Rb w B p) (hc : l.length ≤ c) : Calls Try.prog 57 #[.slice A l.length c, .slice B p.length d] w fun e w' => e = .returned (.bool (p.isPrefixOf l)) ∧ w = w' :=
 (Try.bytes_HasPrefix_all A B l.length c p.length d (nums l) (nums p) w (nums_len l) (nums_len p) hc hl.nums hp.nums).mono fun e w' h => ⟨h.1.trans (by rw [nums_bytes, nums_bytes]; rfl), h.2.symm⟩
/-- a copy: of a slice that is not nil one of the same bytes, of the call's own. -/
theorem clone_any (a : Addr) (c : Nat) (l : List UInt8) (hb : l.length ≤ 140737488355328) (w : World) (hl : Rb w (some a) l) : Calls Try.prog 55 #[.slice (some a) l.length c] w fun e w' => ∃ g d, e = .returned (.slice (some ⟨g, 0, none⟩) l.length d) ∧ l.length ≤ d ∧ w'.ownsRow w.heap.size 5 1 (.slice (some ⟨g, 0, none⟩) l.length d) l.length (bys l) ∧ Gr w w' := by
 refine (Try.bytes_Clone_at a l.length c (nums l) w (nums_len l) hb fun i hi => ?_).mono ?_
 ·
  obtain ⟨ad, e, -, hc⟩ := hl.2 (by omega)
  injection e with e
  subst e
  rw [nums_at l i hi]
  exact hc i _ (bys_at l i hi)
 ·
  rintro e w' ⟨v', rfl, ho, hne, g⟩
  rw [nums_bys] at ho
  have ho' := ho
  obtain ⟨h1, ⟨hv, h0⟩ | ⟨g', cap, cur, hv, hbs, hh, hnc, h2⟩⟩ := ho'
  ·
   exact absurd hv hne
  ·
   subst hv
   exact ⟨g', cap, rfl, hnc, ho, g⟩
end Go.Proofs.Ytoncapkmaeghfaa
namespace Go.Proofs.Ytoncapkmaeghfaa
set_option linter.unusedVariables false
set_option linter.unusedSimpArgs false
open Go.RowKit Go.ChangeMaps Go.Maps

theorem nmA_ok : (decide (1 ≤ nmA.size) && decide (nmA.size ≤ 255)) = true := by decide
theorem keyA : ∃ kl, keyOf Try.prog 9 (.string nmA) = some kl := key_str Try.underlying9 nmA (by decide)
theorem keyedS : Keyed Try.prog 9 := string_keyed Try.underlying9
theorem zeroSU (w : World) : (zeroValue 66).run Try.prog w = .ok (.slice none 0 0) w := by
 obtain ⟨i0, hi, hz⟩ : ∃ i0, Try.prog.info? 66 = some i0 ∧ i0.zero = some (.slice none 0 0) := by
  have h : (Try.prog.info? 66).map (·.zero) = some (some (.slice none 0 0)) := by kernel_rfl
  cases hx : Try.prog.info? 66 with
  | none => rw [hx] at h; cases h
  | some i0 => rw [hx] at h; injection h with h; exact ⟨i0, rfl, h⟩
 simp [zeroValue, typeInfo, hi, hz]
set_option maxRecDepth 100000 in
set_option maxHeartbeats 6400000 in
theorem find_none {Y : Nat → Prop} {F P M : Nat} {R : Option Nat} {room : Int} {n : Nat} (w : World) (h : FsM Y w F P M R room n (none)) : Calls Try.prog 54 #[.pointer (some ⟨F, 0, none⟩), .string nmA] w fun e w' => e = .returned (.tuple #[.slice none 0 0, .int .i64 5]) ∧ w = w' := by
 have f2 := h.f2
 obtain ⟨clk, hb⟩ := h.mp
 obtain ⟨kl, hkl⟩ := keyA
 have hl := look_none (P := Try.prog) Try.underlying60 keyedS hkl (zeroSU w) hb true
 simp only [if_true] at hl
 clear h hb
 go_enter Try.func54, Try.ntmps54
 go_wp2_with (go_at_call 35; refine (isName_any nmA _).mono ?_; rintro e w1 ⟨rfl, rfl⟩; rw [nmA_ok])
 go_ret2
 exact ⟨rfl, rfl⟩
set_option maxRecDepth 100000 in
set_option maxHeartbeats 6400000 in
theorem find_some {Y : Nat → Prop} {F P M : Nat} {R : Option Nat} {room : Int} {n : Nat} {l : List UInt8} (w : World) (h : FsM Y w F P M R room n (some l)) : Calls Try.prog 54 #[.pointer (some ⟨F, 0, none⟩), .string nmA] w fun e w' => ∃ g c, e = .returned (.tuple #[.slice (some ⟨g, 0, none⟩) l.length c, .int .i64 0]) ∧ w = w' ∧ l.length ≤ c ∧ Rb w (some ⟨g, 0, none⟩) l ∧ g < w.heap.size := by
 have f2 := h.f2
 obtain ⟨clk, born, g, c, hb, hc, hr, hg, -⟩ := h.mp
 obtain ⟨kl, hkl⟩ := keyA
 have HX := Lib.hid (And.intro hc (And.intro hr hg))
 clear hc hr hg
 have hl := look_one (P := Try.prog) Try.underlying60 keyedS hkl hb true
 simp only [if_true] at hl
 clear h hb
 go_enter Try.func54, Try.ntmps54
 go_wp2_with (go_at_call 35; refine (isName_any nmA _).mono ?_; rintro e w1 ⟨rfl, rfl⟩; rw [nmA_ok])
 go_ret2
 exact ⟨g, c, rfl, rfl, HX.out⟩
set_option maxRecDepth 100000 in
set_option maxHeartbeats 6400000 in
theorem size_none {Y : Nat → Prop} {F P M : Nat} {R : Option Nat} {room : Int} {n : Nat} (w : World) (h : FsM Y w F P M R room n none) : Calls Try.prog 42 #[.pointer (some ⟨F, 0, none⟩), .string nmA] w fun e w' => e = .returned (.tuple #[.int .i64 0, .int .i64 5]) ∧ w = w' := by
 have H1 := Lib.hid (find_none w h)
 clear h
 go_enter Try.func42, Try.ntmps42
 go_wp2_with (go_at_call 54; refine H1.out.mono ?_; rintro e w1 ⟨rfl, rfl⟩)
 go_ret2
 exact ⟨rfl, rfl⟩
set_option maxRecDepth 100000 in
set_option maxHeartbeats 6400000 in
theorem fsize_some {Y : Nat → Prop} {F P M : Nat} {R : Option Nat} {room : Int} {n : Nat} {l : List UInt8} (w : World) (h : FsM Y w F P M R room n (some l)) : Calls Try.prog 42 #[.pointer (some ⟨F, 0, none⟩), .string nmA] w fun e w' => e = .returned (.tuple #[.int .i64 l.length, .int .i64 0]) ∧ w = w' := by
 have H1 := Lib.hid (find_some w h)
 clear h
 go_enter Try.func42, Try.ntmps42
 go_wp2_with (go_at_call 54; refine H1.out.mono ?_; rintro e w1 ⟨g, c, rfl, rfl, -⟩)
 go_ret2
 exact ⟨rfl, rfl⟩
set_option maxRecDepth 100000 in
set_option maxHeartbeats 6400000 in
theorem read_none {Y : Nat → Prop} {F P M : Nat} {R : Option Nat} {room : Int} {n : Nat} (at_ m : Int) (w : World) (h : FsM Y w F P M R room n none) : Calls Try.prog 43 #[.pointer (some ⟨F, 0, none⟩), .string nmA, .int .i64 at_, .int .i64 m] w fun e w' => e = .returned (.tuple #[.slice none 0 0, .int .i64 5]) ∧ w = w' := by
 have H1 := Lib.hid (find_none w h)
 clear h
 go_enter Try.func43, Try.ntmps43
 go_wp2_with (go_at_call 54; refine H1.out.mono ?_; rintro e w1 ⟨rfl, rfl⟩)
 go_ret2
 exact ⟨rfl, rfl⟩
-- the whole file is read: a copy, of the call's own.
set_option maxRecDepth 100000 in
set_option maxHeartbeats 6400000 in
theorem read_all {Y : Nat → Prop} {F P M : Nat} {R : Option Nat} {room : Int} {n : Nat} {l : List UInt8} (hl : (l.length : Int) ≤ 1073741824) (w : World) (h : FsM Y w F P M R room n (some l)) : Calls Try.prog 43 #[.pointer (some ⟨F, 0, none⟩), .string nmA, .int .i64 0, .int .i64 l.length] w fun e w' => ∃ g d, e = .returned (.tuple #[.slice (some ⟨g, 0, none⟩) l.length d, .int .i64 0]) ∧ l.length ≤ d ∧ w'.ownsRow w.heap.size 5 1 (.slice (some ⟨g, 0, none⟩) l.length d) l.length (bys l) ∧ Gr w w' := by
 have H1 := Lib.hid (find_some w h)
 have hz := IntWalk.i64_in (l.length : Int) (by omega)
 clear h
 go_enter Try.func43, Try.ntmps43
 go_wp2_with (first | (go_at_call 54; refine H1.out.mono ?_; rintro e w1 ⟨g, c, rfl, rfl, hc, hr, hg⟩; have hcI : (l.length : Int) ≤ (c : Int) := (by omega); have HR := Lib.hid hr; clear hr) | (go_at_call 55; refine (clone_any ⟨g, 0, none⟩ c l (by omega) _ HR.out).mono ?_; rintro e w2 ⟨g2, d2, rfl, hd2, ho2, gr2⟩; have HZ := Lib.hid (And.intro hd2 (And.intro ho2 gr2)); clear hd2 ho2 gr2))
 go_ret2
 exact ⟨g2, d2, rfl, HZ.out⟩
end Go.Proofs.Ytoncapkmaeghfaa
namespace Go.Proofs.Ytoncapkmaeghfaa
set_option linter.unusedVariables false
set_option linter.unusedSimpArgs false
open Go

section
variable {P : Program} {ops : Array Oper} {Q : Exit → Act → World → Prop} {md : Region.Mode} {S : World → Prop} {z : Nat}

def wpAnyZ (P : Program) (md : Region.Mode) (ops : Array Oper) (Q : Exit → Act → World → Prop) (S : World → Prop) (z : Nat) : Nat → Array Bool → Act → World → Prop
 | 0, listed, a, w => Region.ready md ops listed = [] ∧ Q .normal a w
 | fuel + 1, listed, a, w =>
  (Region.ready md ops listed = [] → Q .normal a w) ∧
  ∀ i ∈ Region.ready md ops listed, wpOp P ops Q i (fun a' w' => (i ≠ z → S w') ∧ wpAnyZ P md ops Q S z fuel (listed.setIfInBounds i true) a' w') a w

theorem wpAny_of_Z : ∀ (fuel : Nat) (listed : Array Bool) (a : Act) (w : World), wpAnyZ P md ops Q S z fuel listed a w → wpAny P md ops Q fuel listed a w
 | 0, _, _, _, h => h
 | fuel + 1, _, _, _, h => ⟨h.1, fun i hi => wpOp_mono (fun a' w' h' => wpAny_of_Z fuel _ a' w' h'.2) (h.2 i hi)⟩

/-- z comes last: who may come up ahead of i is not z. -/
def lastB (md : Region.Mode) (ops : Array Oper) (z : Nat) : Bool := decide (z < ops.size) && decide (ops.size ≤ z + 1) && Region.sinkB md ops z && Region.chainB md ops z
def closedB (md : Region.Mode) (ops : Array Oper) (z : Nat) (listed : Array Bool) : Bool :=
 decide (listed.size = ops.size) && ((List.range ops.size).all fun j => !listed.getD j false || ((ops[j]?).map (·.after.all fun e => !Region.binds md e || listed.getD e.on false)).getD true) && (List.range ops.size).all fun t => decide (t < z) || !listed.getD t true
theorem closed_inv {listed : Array Bool} (h : closedB md ops z listed = true) : HeadInv md ops z listed := by
 unfold closedB at h
 simp only [Bool.and_eq_true, decide_eq_true_eq] at h
 obtain ⟨⟨h0, h1⟩, h2⟩ := h
 refine ⟨h0, fun j oj hj hl e he hb => ?_, fun t ht ht' => ?_⟩
 ·
  have h3 := List.all_eq_true.1 h1 j (List.mem_range.2 (Array.getElem?_eq_some_iff.1 hj).1)
  rw [hl, hj] at h3
  simp only [Bool.not_true, Bool.false_or, Option.map_some, Option.getD_some] at h3
  have h4 := Array.all_eq_true'.1 h3 e he
  rw [hb] at h4
  simpa using h4
 ·
  have h3 := List.all_eq_true.1 h2 t (List.mem_range.2 ht')
  simp only [Bool.or_eq_true, decide_eq_true_eq, Bool.not_eq_true'] at h3
  rcases h3 with h3 | h3
  ·
   omega
  ·
   exact h3

theorem wpAnyZ_first {i : Nat} {oi : Oper} {v : Value} (hi : ops[i]? = some oi) (hiz : i < z) (hsel : ∀ (j : Nat) (o : Oper) cs b, ops[j]? = some o → o.op ≠ .select cs b)
  (hlast : lastB md ops z = true) (hQ : ∀ c a w, Q (.panic c) (a.put oi.dst v) w → Q (.panic c) a w) :
  ∀ (fuel : Nat) (listed : Array Bool) (a : Act) (w : World), HeadInv md ops z listed →
   (∀ j oj, ops[j]? = some oj → j ≠ i → listed.getD j true = false → (∀ e ∈ oj.after, Region.binds md e = true → e.on ≠ i) → oi.apart ops oj = true) →
   i ∈ Region.ready md ops listed → YieldsIf P ops S oi v a → S w →
   wpAnyZ P md ops Q S z fuel (listed.setIfInBounds i true) (a.put oi.dst v) w → wpAnyZ P md ops Q S z (fuel + 1) listed a w := by
 have hl := hlast
 unfold lastB at hl
 simp only [Bool.and_eq_true, decide_eq_true_eq] at hl
 obtain ⟨⟨⟨hzs, hze⟩, hsink⟩, hchain⟩ := hl
 intro fuel
 induction fuel with
 | zero =>
  intro listed a w _ _ hr hy hS H
  refine ⟨fun h => (by rw [h] at hr; cases hr), fun j hj => ?_⟩
  by_cases hji : j = i
  ·
   subst hji; exact hy.wpOp hi hS ⟨fun _ => hS, H⟩
  ·
   have := ready_mono hj hji
   rw [H.1] at this
   cases this
 | succ fuel ih =>
  intro listed a w inv hfree hr hy hS H
  refine ⟨fun h => (by rw [h] at hr; cases hr), fun j hj => ?_⟩
  by_cases hji : j = i
  ·
   subst hji; exact hy.wpOp hi hS ⟨fun _ => hS, H⟩
  ·
   have h1 := H.2 j (ready_mono hj hji)
   obtain ⟨hjun, oj, hoj, hall⟩ := mem_ready.1 hj
   have hiun := (mem_ready.1 hr).1
   have hjz : j < z := by
    rcases Nat.lt_or_ge j z with h | h
    ·
     exact h
    ·
     exact absurd hj (tail_waits hsink hchain hzs inv _ i rfl hiz hiun j h)
   have hnot : ∀ e ∈ oj.after, Region.binds md e = true → e.on ≠ i := fun e he hb heq => by
    have h1 := hall e he hb
    rw [heq, getD_both hiun] at h1
    cases h1
   have h2 := wpOp_putIf hoj (hfree j oj hoj hji hjun hnot) (fun cs b => hsel i oi cs b hi) (fun cs b => hsel j oj cs b hoj) hQ hy h1
   have hfree' : ∀ k ok, ops[k]? = some ok → k ≠ i → (listed.setIfInBounds j true).getD k true = false →
     (∀ e ∈ ok.after, Region.binds md e = true → e.on ≠ i) → oi.apart ops ok = true := fun k ok hk hki hun hno => by
    refine hfree k ok hk hki ?_ hno
    by_cases hjk : j = k
    ·
     subst hjk; exact hjun
    ·
     rw [getD_set_ne true hjk] at hun; exact hun
   refine wpOp_mono (fun a' w' h3 => ⟨h3.2.1, ih (listed.setIfInBounds j true) a' w' (inv.set hj hjz) hfree' (ready_mono hr (Ne.symm hji)) h3.1 (h3.2.1 (by omega)) ?_⟩) h2
   rw [Array.setIfInBounds_comm _ _ hji]
   exact h3.2.2

/-- Take number i first. -/
theorem wpAnyZ_take {i : Nat} {oi : Oper} {v : Value} {fuel : Nat} {listed : Array Bool} {a : Act} {w : World} (hi : ops[i]? = some oi) (hlast : (decide (i < z) && lastB md ops z && closedB md ops z listed && Region.noSelect ops && Region.free md ops listed i && (Region.ready md ops listed).contains i) = true)
  (hQ : ∀ c a w, Q (.panic c) (a.put oi.dst v) w → Q (.panic c) a w) (hw : Region.wanted oi (yielded ops a.tmps) = true) (hy : ∀ w, S w → (execOp a.eval oi).run P w = .ok (.value v) w) (hS : S w)
  (h : wpAnyZ P md ops Q S z fuel (listed.setIfInBounds i true) (a.put oi.dst v) w) : wpAnyZ P md ops Q S z (fuel + 1) listed a w := by
 simp only [Bool.and_eq_true, decide_eq_true_eq] at hlast
 obtain ⟨⟨⟨⟨⟨h0, h1⟩, h2⟩, h3⟩, h4⟩, h5⟩ := hlast
 exact wpAnyZ_first hi h0 (Region.noSelect_spec h3) h1 hQ fuel listed a w (closed_inv h2) (Region.free_spec hi h4) (by simpa using h5) (Or.inl ⟨hw, hy⟩) hS h

def AllReadyZ (P : Program) (md : Region.Mode) (ops : Array Oper) (Q : Exit → Act → World → Prop) (S : World → Prop) (z fuel : Nat) (listed : Array Bool) (a : Act) (w : World) (rs : List Nat) : Prop :=
 ∀ i ∈ rs, wpOp P ops Q i (fun a' w' => (i ≠ z → S w') ∧ wpAnyZ P md ops Q S z fuel (listed.setIfInBounds i true) a' w') a w
theorem AllReadyZ.nil {fuel : Nat} {listed : Array Bool} {a : Act} {w : World} : AllReadyZ P md ops Q S z fuel listed a w [] := fun _ h => by cases h
theorem AllReadyZ.cons {fuel : Nat} {listed : Array Bool} {a : Act} {w : World} {i : Nat} {o : Oper} {rs : List Nat} (ho : ops[i]? = some o) (hw : Region.wanted o (yielded ops a.tmps) = true)
  (h : ∀ K' : Act → World → Prop, Shut (∀ a w, (i ≠ z → S w) → ((i ≠ z → S w) → wpAnyZ P md ops Q S z fuel (listed.setIfInBounds i true) a w) → K' a w) → Oper.wp P o a w K' Q)
  (hs : AllReadyZ P md ops Q S z fuel listed a w rs) : AllReadyZ P md ops Q S z fuel listed a w (i :: rs) := fun j hj => by
 rcases List.mem_cons.1 hj with rfl | hj
 ·
  exact wpOp_step ho (fun K' hK => by rw [if_pos hw]; exact h K' (fun a w hS hW => hK a w ⟨hS, hW hS⟩))
 ·
  exact hs j hj
theorem wpAnyZ_ready {rs : List Nat} {fuel : Nat} {listed : Array Bool} {a : Act} {w : World} (hr : Region.ready md ops listed = rs) (hne : rs ≠ [])
  (h : AllReadyZ P md ops Q S z fuel listed a w rs) : wpAnyZ P md ops Q S z (fuel + 1) listed a w :=
 ⟨fun h0 => absurd (hr ▸ h0) hne, hr ▸ h⟩
theorem wpAnyZ_done {listed : Array Bool} {a : Act} {w : World} (hr : Region.ready md ops listed = []) (h : Q .normal a w) : ∀ fuel, wpAnyZ P md ops Q S z fuel listed a w
 | 0 => ⟨hr, h⟩
 | _ + 1 => ⟨fun _ => h, by rw [hr]; simp⟩
theorem wp_region_Z (z : Nat) (S : World → Prop) {id : Nat} {a : Act} {w : World} (hm : P.follows .mixedOrders = true)
  (h : wpAnyZ P .any ops Q S z ops.size (Array.replicate ops.size false) a w.drew) : (Code.region id ops true).wp P Q a w :=
 wp_region_any hm (wpAny_of_Z _ _ _ _ h)
end
end Go.Proofs.Ytoncapkmaeghfaa
