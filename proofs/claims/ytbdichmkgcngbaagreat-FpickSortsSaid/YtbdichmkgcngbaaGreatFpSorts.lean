/- The law FpickSorts of chapter 23, walked over the contracts. -/
import Derived.Test.YtbdichmkgcngbaaGreatFpSrtP
import Derived.Test.YtbdichmkgcngbaaGreatFpLawA
import Derived.Test.YtbdichmkgcngbaaGreatFpApplyR
import Derived.Test.YtbdichmkgcngbaaGreatFpLaws
namespace Go.Proofs.YtbdichmkgcngbaaGreat
set_option linter.unusedVariables false
set_option linter.unusedSimpArgs false
open Go.RowKit

def SortNm (nm : ByteArray) : Prop := ((findF nm).isSome = true → 1 ≤ (rowF nm).kind ∧ (rowF nm).kind ≤ 7) ∧ ∀ S : List Sr, S.all isS = true →
  applyE nm S = 0 ∧ (applyS nm ⟨false, 0⟩ S).length = S.length ∧ applyE nm (applyS nm ⟨false, 0⟩ S) = 0 ∧ applyS nm ⟨false, 0⟩ (applyS nm ⟨false, 0⟩ S) = applyS nm ⟨false, 0⟩ S ∧ ∀ t ∈ applyS nm ⟨false, 0⟩ S, t ∈ S
theorem applyE_ok {nm : ByteArray} {S : List Sr} (hf : (findF nm).isSome = true) (hS : S.all isS = true) : applyE nm S = 0 := by unfold applyE; rw [if_pos hf, if_pos hS]
theorem applyS_ok {nm : ByteArray} {r : Fr} {k : Vl} {S : List Sr} (hf : (findF nm).isSome = true) (hr : rowF nm = r) (hS : S.all isS = true) : applyS nm k S = pickA id r (normV k) S := by unfold applyS; rw [if_pos (applyE_ok hf hS), hr]
theorem all_sub {S T : List Sr} (h : S.all isS = true) (hT : ∀ t ∈ T, t ∈ S) : T.all isS = true := List.all_eq_true.2 (fun t ht => List.all_eq_true.1 h t (hT t ht))
theorem sn_of {nm : ByteArray} {r : Fr} (hr : rowF nm = r) (hf : (findF nm).isSome = true) (h1 : 1 ≤ r.kind) (h7 : r.kind ≤ 7) {lt : Sr → Sr → Bool} (hp : ∀ k S, pickA id r k S = sortR lt S) (hw : Weak lt) : SortNm nm := by
  refine ⟨fun _ => by rw [hr]; exact ⟨h1, h7⟩, fun S hS => ?_⟩
  have hm : ∀ t ∈ applyS nm ⟨false, 0⟩ S, t ∈ S := fun t ht => by rw [applyS_ok hf hr hS, hp] at ht; exact (sortR_mem lt S t).1 ht
  have hT := all_sub hS hm
  refine ⟨applyE_ok hf hS, ?_, applyE_ok hf hT, ?_, hm⟩
  · rw [applyS_ok hf hr hS, hp, sortR_len]
  · rw [applyS_ok hf hr hT, applyS_ok hf hr hS, hp, hp, sortR_idem hw]
theorem sn_sortByName : SortNm ⟨#[115, 111, 114, 116, 66, 121, 78, 97, 109, 101]⟩ := sn_of (r := R20) (by kernel_rfl) (by kernel_rfl) (by decide) (by decide) (lt := fun a b => ltN a.name b.name) (fun k S => rfl) (ltN_weak Sr.name)
theorem sn_sortByMaxima : SortNm ⟨#[115, 111, 114, 116, 66, 121, 77, 97, 120, 105, 109, 97]⟩ := sn_of (r := R18) (by kernel_rfl) (by kernel_rfl) (by decide) (by decide) (lt := fun a b => ltV R18.least (ofR R18.by_ a.vals) (ofR R18.by_ b.vals)) (fun k S => rfl) (ltV_weak R18.least (fun a : Sr => ofR R18.by_ a.vals))
theorem sn_sortByMinima : SortNm ⟨#[115, 111, 114, 116, 66, 121, 77, 105, 110, 105, 109, 97]⟩ := sn_of (r := R19) (by kernel_rfl) (by kernel_rfl) (by decide) (by decide) (lt := fun a b => ltV R19.least (ofR R19.by_ a.vals) (ofR R19.by_ b.vals)) (fun k S => rfl) (ltV_weak R19.least (fun a : Sr => ofR R19.by_ a.vals))
theorem sn_sortByTotal : SortNm ⟨#[115, 111, 114, 116, 66, 121, 84, 111, 116, 97, 108]⟩ := sn_of (r := R21) (by kernel_rfl) (by kernel_rfl) (by decide) (by decide) (lt := fun a b => ltV R21.least (ofR R21.by_ a.vals) (ofR R21.by_ b.vals)) (fun k S => rfl) (ltV_weak R21.least (fun a : Sr => ofR R21.by_ a.vals))

def nmsL : List ByteArray := [⟨#[115, 111, 114, 116, 66, 121, 78, 97, 109, 101]⟩, ⟨#[115, 111, 114, 116, 66, 121, 77, 97, 120, 105, 109, 97]⟩, ⟨#[115, 111, 114, 116, 66, 121, 77, 105, 110, 105, 109, 97]⟩, ⟨#[115, 111, 114, 116, 66, 121, 84, 111, 116, 97, 108]⟩]
theorem nms_sn : ∀ nm ∈ nmsL, SortNm nm := by
  intro nm h
  unfold nmsL at h
  simp only [List.mem_cons, List.not_mem_nil, or_false] at h
  rcases h with rfl | rfl | rfl | rfl
  · exact sn_sortByName
  · exact sn_sortByMaxima
  · exact sn_sortByMinima
  · exact sn_sortByTotal
theorem high_first {S : List Sr} (hS : S.all isS = true) {n : Int} (h0 : 0 ≤ n) (h1 : n ≤ 1000) :
    applyE ⟨#[104, 105, 103, 104, 101, 115, 116, 77, 97, 120]⟩ S = 0 ∧ applyS ⟨#[104, 105, 103, 104, 101, 115, 116, 77, 97, 120]⟩ (intV n) S = (applyS ⟨#[115, 111, 114, 116, 66, 121, 77, 97, 120, 105, 109, 97]⟩ ⟨false, 0⟩ S).take (min n.toNat S.length) ∧ (applyS ⟨#[115, 111, 114, 116, 66, 121, 77, 97, 120, 105, 109, 97]⟩ ⟨false, 0⟩ S).length = S.length := by
  have e8 : rowF ⟨#[104, 105, 103, 104, 101, 115, 116, 77, 97, 120]⟩ = R8 := by kernel_rfl
  have e18 : rowF ⟨#[115, 111, 114, 116, 66, 121, 77, 97, 120, 105, 109, 97]⟩ = R18 := by kernel_rfl
  have f8 : (findF ⟨#[104, 105, 103, 104, 101, 115, 116, 77, 97, 120]⟩).isSome = true := by kernel_rfl
  have f18 : (findF ⟨#[115, 111, 114, 116, 66, 121, 77, 97, 120, 105, 109, 97]⟩).isSome = true := by kernel_rfl
  have hi : intV n = ⟨true, n * 1000000⟩ := by
    unfold intV
    rw [show (decide (-4611686018427 ≤ n) && decide (n ≤ 4611686018427)) = true by simp; omega]
    exact ofV_in (by omega) (by omega)
  have hk : knB ⟨true, n * 1000000⟩ = true := by unfold knB isB; simp; omega
  refine ⟨applyE_ok f8 hS, ?_, ?_⟩
  · rw [applyS_ok f8 e8 hS, applyS_ok f18 e18 hS, hi, normV_kn hk]
    show firstL _ (sortR (fun a b => ltV R18.least (ofR R18.by_ a.vals) (ofR R18.by_ b.vals)) S) = (sortR (fun a b => ltV R18.least (ofR R18.by_ a.vals) (ofR R18.by_ b.vals)) S).take _
    unfold firstL firstN
    rw [if_pos ⟨rfl, by show (0 : Int) ≤ n * 1000000; omega⟩, sortR_len]
    congr 1
    show min S.length (n * 1000000 / 1000000).toNat = _
    rw [Int.mul_ediv_cancel _ (by decide)]
    omega
  · rw [applyS_ok f18 e18 hS]
    show (sortR (fun a b => ltV R18.least (ofR R18.by_ a.vals) (ofR R18.by_ b.vals)) S).length = _
    rw [sortR_len]

def scellsN (L : List ByteArray) : List Value := L.map Value.string
theorem scellsN_at (L : List ByteArray) (k : Nat) (h : k < L.length) : (scellsN L)[k]? = some (.string L[k]) := by
  unfold scellsN; rw [List.getElem?_map, List.getElem?_eq_getElem h]; rfl

set_option maxRecDepth 100000 in
set_option maxHeartbeats 6400000 in
theorem law_FpickSorts (A : Option Addr) (c : Nat) (L : List Sq) (n : Int) (hn1 : -9223372036854775808 ≤ n) (hn2 : n ≤ 9223372036854775807) (w : World) (hcap : L.length ≤ c) (hr : Rl w A L) (hv : Lie w L) :
    Calls Tryz.prog 4 #[.slice A L.length c, .int .i64 n] w fun e w' => e = .returned (.bool true) ∧ Gr w w' := by
  have HH := Lib.hid (heavy23_any A c L w hr)
  go_enter Tryz.func4, Tryz.ntmps4
  go_wp2_with fail
  refine HH.out.mono ?_
  rintro e w1 ⟨⟨b, rfl, hb⟩, gw1⟩
  clear HH
  cases b
  case true =>
    go_wp2
    go_ret
    exact ⟨rfl, gw1⟩
  obtain ⟨hl20, hLt⟩ := hb rfl
  have HLE : Hid (∀ x ∈ L, x.s.vals.length ≤ 1000000) := Lib.hid (fun x hx => by have := (hLt x hx).1; omega)
  clear hLt hb
  by_cases hn0 : n < 0
  · go_wp2
    go_ret
    exact ⟨rfl, gw1⟩
  by_cases hn3 : 1000 < n
  · go_wp2
    go_ret
    exact ⟨rfl, gw1⟩
  have hl : (L.length : Int) ≤ 20 := by omega
  have hn0' : 0 ≤ n := by omega
  have hn3' : n ≤ 1000 := by omega
  go_wp2
  go_loopw [5] (fun i wr => ∃ j : Nat, j ≤ L.length ∧ i = .int .i64 j ∧ Gr w wr ∧ Hid (∀ i (h : i < L.length), i < j → isS L[i].s = true)) (fun i _ => L.length - (intOf i).toNat)
  case atStart => exact ⟨0, Nat.zero_le _, rfl, gw1, Lib.hid (fun i _ h => absurd h (Nat.not_lt_zero _))⟩
  case round =>
    clear gw1
    obtain ⟨j, hj, rfl, hgr, HA⟩ := hrel
    by_cases hlt : j < L.length
    · obtain ⟨x, hx⟩ : ∃ x, L[j] = x := ⟨_, rfl⟩
      obtain ⟨ad, rfl, hb, hx0, hx1, hx2, hx3, hx4⟩ := (hr.gr hgr).at hlt
      have hvx := (hv _ (List.getElem_mem hlt)).gr hgr
      rw [hx] at hx0 hx1 hx2 hx3 hx4 hvx
      have QI := fun w hr => rsis_any x.s x.A x.c w hr
      cases hsx : isS x.s
      · simp only [hsx] at QI
        clear hx hsx
        go_wp2_with fail
        refine (QI _ hvx).mono ?_; rintro e w5 ⟨rfl, hg⟩
        clear hx0 hx1 hx2 hx3 hx4
        go_wp2
        go_ret
        exact ⟨rfl, Gr.trans hgr hg⟩
      · have HA2 : Hid (∀ i (h : i < L.length), i < j + 1 → isS L[i].s = true) := Lib.hid (fun i h hi => by
          by_cases e : i = j
          · subst e; rw [hx]; exact hsx
          · exact HA.out i h (by omega))
        simp only [hsx] at QI
        clear hx hsx HA
        go_wp2_with fail
        refine (QI _ hvx).mono ?_; rintro e w5 ⟨rfl, hg⟩
        have gw5 := Gr.trans hgr hg
        clear hx0 hx1 hx2 hx3 hx4 hg
        go_wp2
        go_roundw
        case rel => exact ⟨j + 1, by omega, by go_num, gw5, HA2⟩
        case measure => simp [intOf]; omega
    have HOK : Hid ((L.map Sq.s).all isS = true) := Lib.hid (by
      rw [okL_s]
      exact List.all_eq_true.2 (fun x hx => by obtain ⟨i, hi, rfl⟩ := List.getElem_of_mem hx; exact HA.out i hi (by omega)))
    obtain ⟨S, hS⟩ : ∃ S, L.map Sq.s = S := ⟨_, rfl⟩
    have HSL : Hid (S.length = L.length) := Lib.hid (by rw [← hS]; simp)
    have HSM : Hid (∀ t ∈ S, t.vals.length ≤ 1000000) := Lib.hid (fun t ht => by rw [← hS] at ht; obtain ⟨y, hy, e⟩ := List.mem_map.1 ht; rw [← e]; exact HLE.out y hy)
    have HAP : Hid (∀ nm k, ((findF nm).isSome = true → 1 ≤ (rowF nm).kind ∧ (rowF nm).kind ≤ 7) → ∀ w', Gr w w' → Calls Tryz.prog 18 #[.string nm, .agg #[.bool k.ok, .int .i64 k.n], .string ⟨#[]⟩, .slice A L.length c] w' (RetA (applyE nm S) (applyS nm k S) w')) := Lib.hid (fun nm k hk w' hg => by
      rw [← hS]
      exact apply_any nm ⟨#[]⟩ k A c L w' hk hl20 hcap HLE.out (hr.gr hg) (hv.gr hg))
    rw [hS] at HOK
    clear hS HA
    have hkk : j = L.length := by omega
    subst hkk
    clear hj
    obtain ⟨wl, hwl⟩ : ∃ wl, wl = wr := ⟨_, rfl⟩
    subst hwl
    have hnr := Rd.new (W := wl) rfl 9 (n := 4) (size := 1) (scellsN nmsL) rfl
    have hgn : Gr w (wl.alloc (.cells (scellsN nmsL).toArray 9)) := Gr.alloc hgr _
    clear hgr
    go_wp2
    obtain ⟨ad, had⟩ : ∃ ad : Addr, ad = ⟨wl.heap.size, 0, none⟩ := ⟨_, rfl⟩
    rw [← had] at hnr ⊢
    clear had
    go_loopw [7] (fun i wr => ∃ k : Nat, k ≤ 4 ∧ i = .int .i64 k ∧ Gr w wr ∧ Rd wr 1 (some ad) 4 (scellsN nmsL)) (fun i _ => 4 - (intOf i).toNat)
    case atStart => exact ⟨0, Nat.zero_le _, rfl, hgn, hnr⟩
    case round =>
      clear hgn hnr
      obtain ⟨k, hk, rfl, hgr, hnr⟩ := hrel
      by_cases hlt : k < 4
      · obtain ⟨nm, hnm⟩ : ∃ nm, nm = nmsL[k]'hlt := ⟨_, rfl⟩
        have HSN := Lib.hid (nms_sn nm (by rw [hnm]; exact List.getElem_mem _))
        obtain ⟨ad', e', hbn, hcn⟩ := id hnr.2 (by decide)
        injection e' with e'
        subst e'
        have hx0 := hcn k _ (scellsN_at nmsL k hlt)
        rw [← hnm] at hx0
        clear hnm hcn
        obtain ⟨s1, s2, s3, s4, s5⟩ := HSN.out.2 S HOK.out
        have Q1 := fun w' hg => HAP.out nm ⟨false, 0⟩ HSN.out.1 w' hg
        simp only at Q1
        rw [s1] at Q1
        obtain ⟨T, hT⟩ : ∃ T, applyS nm ⟨false, 0⟩ S = T := ⟨_, rfl⟩
        rw [hT] at Q1 s2 s3 s4 s5
        have H2 := Lib.hid (And.intro s2 (And.intro s3 (And.intro s4 s5)))
        clear s1 s2 s3 s4 s5 hT
        go_wp2_with fail
        refine (Q1 _ hgr).mono ?_; rintro e wX ⟨AX, X, cX, rfl, hX, hcX, hRX, hLX, hgX⟩
        have gX := Gr.trans hgr hgX
        have hxX := (hgX.cell (p := ad.add k) (by rw [add_blk]; exact hbn)).trans hx0
        have hnX : Rd wX 1 (some ad) 4 (scellsN nmsL) := hnr.gr hgX
        have hbX : ad.block < wX.heap.size := Nat.lt_of_lt_of_le hbn hgX.size
        have hXl : X.length = L.length := by
          have h := congrArg List.length hX
          rw [List.length_map] at h
          rw [h, H2.out.1, HSL.out]
        have HXE : Hid (∀ x ∈ X, x.s.vals.length ≤ 1000000) := Lib.hid (fun x hx => by
          have h1 : x.s ∈ T := by rw [← hX]; exact List.mem_map_of_mem hx
          exact HSM.out _ (H2.out.2.2.2 _ h1))
        have Q2 := fun w' (hr' : Rl w' AX X) (hv' : Lie w' X) => apply_any nm ⟨#[]⟩ ⟨false, 0⟩ AX cX X w' HSN.out.1 (by omega) hcX HXE.out hr' hv'
        rw [hX, H2.out.2.1, H2.out.2.2.1] at Q2
        have hXI : (X.length : Int) = (L.length : Int) := by omega
        have HXI := Lib.hid hXl
        rw [hXl] at Q2
        have HX := Lib.hid hX
        clear hx0 hgr hgX hnr hbn hX hcX Q1 hXI hXl
        have Q2 := Lib.hid Q2
        rw [HXI.out]
        go_wp2_with fail
        refine (Q2.out _ hRX hLX).mono ?_; rintro e wY ⟨AY, Y, cY, rfl, hY, _, hRY, hLY, hgY⟩
        have gY := Gr.trans gX hgY
        have hnY : Rd wY 1 (some ad) 4 (scellsN nmsL) := hnX.gr hgY
        have HYX : Hid (X.map Sq.s = Y.map Sq.s) := Lib.hid (by rw [HX.out, hY])
        have QA := Lib.hid (fun (w' : World) (h1 : Rl w' AX X) (h2 : Rl w' AY Y) (h3 : Lie w' X) (h4 : Lie w' Y) => all23_any AX AY cX cY X Y w' (by have := HXI.out; omega) HYX.out HXE.out h1 h2 h3 h4)
        rw [HXI.out] at QA
        have hRX2 := hRX.gr hgY
        have hLX2 := hLX.gr hgY
        clear hxX hnX hbX hRX hLX hY hgY Q2 gX
        go_wp2_with fail
        refine (QA.out _ hRX2 hRY hLX2 hLY).mono ?_; rintro e wZ ⟨rfl, hgZ⟩
        have gZ := Gr.trans gY hgZ
        have hnZ : Rd wZ 1 (some ad) 4 (scellsN nmsL) := hnY.gr hgZ
        clear hRX2 hLX2 hRY hLY hgZ hnY gY QA
        go_wp2
        go_roundw
        case rel => exact ⟨k + 1, by omega, by go_num, gZ, hnZ⟩
        case measure => simp [intOf]; omega
      · have hkk : k = 4 := by omega
        subst hkk
        clear hnr
        obtain ⟨f1, f2, f3⟩ := high_first HOK.out hn0' hn3'
        obtain ⟨s1, s2, _, _, s5⟩ := sn_sortByMaxima.2 S HOK.out
        have Q1 := fun w' hg => HAP.out ⟨#[115, 111, 114, 116, 66, 121, 77, 97, 120, 105, 109, 97]⟩ ⟨false, 0⟩ sn_sortByMaxima.1 w' hg
        have Q3 := fun w' hg => HAP.out ⟨#[104, 105, 103, 104, 101, 115, 116, 77, 97, 120]⟩ (intV n) high_kind w' hg
        simp only at Q1
        rw [s1] at Q1
        obtain ⟨T, hT⟩ : ∃ T, applyS ⟨#[115, 111, 114, 116, 66, 121, 77, 97, 120, 105, 109, 97]⟩ ⟨false, 0⟩ S = T := ⟨_, rfl⟩
        obtain ⟨m, hm⟩ : ∃ m, min n.toNat S.length = m := ⟨_, rfl⟩
        have hmm : min n (L.length : Int) = (m : Int) := by have := HSL.out; omega
        rw [f1, f2, hT, hm] at Q3
        rw [hT] at Q1 s5 f3
        have hmL : m ≤ L.length := by have := HSL.out; omega
        have HT := Lib.hid (And.intro f3 s5)
        have Q1 := Lib.hid Q1
        have Q3 := Lib.hid Q3
        clear f1 f2 f3 s1 s2 s5 hT hm
        go_wp2_with fail
        refine (Q1.out _ hgr).mono ?_; rintro e wX ⟨AX, X, cX, rfl, hX, hcX, hRX, hLX, hgX⟩
        have gX := Gr.trans hgr hgX
        have HX := Lib.hid hX
        have hXl : X.length = L.length := by
          have h := congrArg List.length hX
          rw [List.length_map] at h
          rw [h, HT.out.1, HSL.out]
        have hmc : (m : Int) ≤ (cX : Int) := by omega
        have hRT : Rl wX AX (X.take m) := hRX.take (by omega)
        have hLT : Lie wX (X.take m) := fun x hx => hLX x (List.mem_of_mem_take hx)
        have HTL : Hid ((X.take m).length = m) := Lib.hid (by rw [List.length_take]; omega)
        clear hX hcX hRX hLX hgX hgr Q1 hXl
        go_wp2_with fail
        refine (rint_any n _).mono ?_; rintro e wi ⟨rfl, hgi⟩
        have gi := Gr.trans gX hgi
        have hRT2 := hRT.gr hgi
        have hLT2 := hLT.gr hgi
        clear hRT hLT hgi gX
        go_wp2_with fail
        refine (Q3.out _ gi).mono ?_; rintro e wY ⟨AY, Y, cY, rfl, hY, _, hRY, hLY, hgY⟩
        have gY := Gr.trans gi hgY
        have HYM : Hid (Y.map Sq.s = (X.take m).map Sq.s) := Lib.hid (by rw [hY, List.map_take, HX.out])
        have hYl : Y.length = m := by
          have h := congrArg List.length HYM.out
          rw [List.length_map, List.length_map, HTL.out] at h
          exact h
        have HYE : Hid (∀ x ∈ Y, x.s.vals.length ≤ 1000000) := Lib.hid (fun x hx => by
          have h1 : x.s ∈ T.take m := by rw [← hY]; exact List.mem_map_of_mem hx
          exact HSM.out _ (HT.out.2 _ (List.mem_of_mem_take h1)))
        have QA := Lib.hid (fun (w' : World) (h1 : Rl w' AY Y) (h2 : Rl w' AX (X.take m)) (h3 : Lie w' Y) (h4 : Lie w' (X.take m)) => all23_any AY AX cY cX Y (X.take m) w' (by omega) HYM.out HYE.out h1 h2 h3 h4)
        rw [hYl, HTL.out] at QA
        have hRT3 := hRT2.gr hgY
        have hLT3 := hLT2.gr hgY
        have HYl := Lib.hid hYl
        clear hRT2 hLT2 hgY hY gi Q3 hYl
        rw [HYl.out]
        go_wp2_with fail
        refine (QA.out _ hRY hRT3 hLY hLT3).mono ?_; rintro e wa ⟨rfl, hga⟩
        go_wp2_with fail
        refine (known23_any _).mono ?_; rintro e wd ⟨rfl, hgd⟩
        go_wp2
        go_ret
        exact ⟨rfl, Gr.trans gY (Gr.trans hga hgd)⟩
end Go.Proofs.YtbdichmkgcngbaaGreat
