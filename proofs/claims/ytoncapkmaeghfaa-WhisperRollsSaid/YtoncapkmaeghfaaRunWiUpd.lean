/- Points laid in a file: whisper.Update; Info. -/
import Derived.Test.YtoncapkmaeghfaaRunWiLay
import Derived.Test.YtoncapkmaeghfaaRunAgPlain
namespace Go.Proofs.Ytoncapkmaeghfaa
set_option linter.unusedVariables false
set_option linter.unusedSimpArgs false
open Go.RowKit

theorem FsM.weak {Y : Nat → Prop} {w : World} {F P M : Nat} {R : Option Nat} {room : Int} {n : Nat} {D : Option (List UInt8)} (h : FsM Y w F P M R room n D) : FsM (fun _ => False) w F P M R room n D :=
 h.more (Gr.refl w) (fun _ e => e.elim) (fun _ e => e.elim)
set_option maxRecDepth 100000 in
set_option maxHeartbeats 6400000 in
theorem wupdate_gone {Y : Nat → Prop} {F P M : Nat} {R : Option Nat} {room : Int} {n : Nat} (now : Int) (v : Value) (w : World) (h : FsM Y w F P M R room n none) : Calls Try.prog 10 #[.pointer (some ⟨F, 0, none⟩), .string nmA, .int .i64 now, v] w fun e w' => e = .returned (.tuple #[.int .i64 0, .int .i64 5]) ∧ w = w' := by
 have HOP := Lib.hid (open_gone w h)
 clear h
 go_enter Try.func10, Try.ntmps10
 go_wp2_with (go_at_call 24; refine HOP.out.mono ?_; rintro e w1 ⟨rfl, rfl⟩)
 go_ret2
 exact ⟨rfl, rfl⟩
set_option maxRecDepth 100000 in
set_option maxHeartbeats 6400000 in
theorem wupdate_bad {Y : Nat → Prop} {F P M : Nat} {R : Option Nat} {room : Int} {n : Nat} {D : List UInt8} (hD : (D.length : Int) ≤ 1073741824) (ho : opS D = none) (now : Int) (v : Value) (w : World) (h : FsM Y w F P M R room n (some D)) : Calls Try.prog 10 #[.pointer (some ⟨F, 0, none⟩), .string nmA, .int .i64 now, v] w fun e w' => e = .returned (.tuple #[.int .i64 0, .int .i64 2]) ∧ Gr w w' := by
 have HOP := Lib.hid (open_any D hD w h)
 have HOD := Lib.hid ho
 clear h hD ho
 go_enter Try.func10, Try.ntmps10
 go_wp2_with (go_at_call 24; refine HOP.out.mono ?_; rintro e w1 ⟨g1, h1⟩; rw [HOD.out] at h1; simp only at h1; subst h1; have HG1 := Lib.hid g1; clear g1)
 go_ret2
 exact ⟨rfl, HG1.out⟩
set_option maxRecDepth 100000 in
set_option maxHeartbeats 6400000 in
theorem wupdate_time {Y : Nat → Prop} {F P M : Nat} {R : Option Nat} {room : Int} {n : Nat} {D : List UInt8} {ag xf : Nat} {m : Arcs} (hD : (D.length : Int) ≤ 1073741824) (ho : opS D = some (ag, xf, m)) (now : Int) (hnow : ¬ (1 ≤ now ∧ now ≤ 4294967295)) (v : Value) (w : World) (h : FsM Y w F P M R room n (some D)) : Calls Try.prog 10 #[.pointer (some ⟨F, 0, none⟩), .string nmA, .int .i64 now, v] w fun e w' => e = .returned (.tuple #[.int .i64 0, .int .i64 1]) ∧ Gr w w' := by
 have HOP := Lib.hid (open_any D hD w h)
 have HOD := Lib.hid ho
 have HNW : Hid ((decide (1 ≤ now) && decide (now ≤ 4294967295)) = false) := Lib.hid (by rw [Bool.and_eq_false_iff, decide_eq_false_iff_not, decide_eq_false_iff_not]; omega)
 clear h hD ho hnow
 go_enter Try.func10, Try.ntmps10
 go_wp2_with (first | (go_at_call 24; refine HOP.out.mono ?_; rintro e w1 ⟨g1, h1⟩; rw [HOD.out] at h1; obtain ⟨X, b, cc, g, d, rfl, hfi, hgw⟩ := h1; have H1 := Lib.hid (And.intro g1 (And.intro hfi hgw)); clear g1 hfi hgw) | (go_at_call 25; refine (isNow_any now _).mono ?_; rintro e w2 ⟨rfl, rfl⟩; rw [HNW.out]))
 go_ret2
 exact ⟨rfl, H1.out.1⟩
set_option maxRecDepth 100000 in
set_option maxHeartbeats 6400000 in
theorem wupdate_any {Y : Nat → Prop} {F P M : Nat} {R : Option Nat} {room : Int} {n : Nat} {D : List UInt8} {ag xf : Nat} {m : Arcs} (hD : (D.length : Int) ≤ 1073741824) (ho : opS D = some (ag, xf, m)) (now : Int) (hnow1 : 1 ≤ now) (hnow2 : now ≤ 4294967295) (A : Option Addr) (c : Nat) (L : List (Int × Int)) (hL : L.length ≤ 1000) (hn : n ≤ 900000) (w : World) (h : FsM Y w F P M R room n (some D)) (hr : Ri w A L) (hA : ∀ ad, A = some ad → ¬ Tch P M R ad.block) :
  Calls Try.prog 10 #[.pointer (some ⟨F, 0, none⟩), .string nmA, .int .i64 now, .slice A L.length c] w fun e w' => e = .returned (.tuple #[.int .i64 ((updS ag xf m now L (0, D)).1 : Nat), .int .i64 0]) ∧ FsM (fun _ => False) w' F P M none room 0 (some (updS ag xf m now L (0, D)).2) ∧ Kp (Tch P M R) w w' := by
 have HOP := Lib.hid (open_any D hD w h)
 have HOD := Lib.hid ho
 have H0 := Lib.hid h
 have HNW : Hid ((decide (1 ≤ now) && decide (now ≤ 4294967295)) = true) := Lib.hid (by rw [decide_eq_true hnow1, decide_eq_true hnow2]; rfl)
 obtain ⟨U, hU⟩ : ∃ U, U = updS ag xf m now L (0, D) := ⟨_, rfl⟩
 rw [← hU]
 have HU := Lib.hid hU
 have HR := Lib.hid (And.intro hr hA)
 have hLi : (L.length : Int) ≤ 1000 := by omega
 clear h hD ho hU hr hA
 go_enter Try.func10, Try.ntmps10
 go_wp2_with (first | (go_at_call 24; refine HOP.out.mono ?_; rintro e w1 ⟨g1, h1⟩; rw [HOD.out] at h1; obtain ⟨X, b, cc, g, d, rfl, hfi, hgw⟩ := h1; have H1 := Lib.hid (And.intro g1 (And.intro hfi hgw)); clear g1 hfi hgw) | (go_at_call 25; refine (isNow_any now _).mono ?_; rintro e w2 ⟨rfl, rfl⟩; rw [HNW.out]))
 go_loopw [12, 29] (fun nn j wr => ∃ (q kq : Nat) (Rq : Option Nat) (nq : Nat) (Dq : List UInt8), q ≤ L.length ∧ j = .int .i64 q ∧ nn = .int .i64 kq ∧ kq ≤ q ∧ nq ≤ n + 27 * q ∧ FiM wr X F P M Rq room nq ag xf b cc m g d Dq ∧ Kp (Tcg P M R g) w1 wr ∧ (∀ z, Rq = some z → R = some z ∨ w1.heap.size ≤ z) ∧ Hid (U = updS ag xf m now (L.drop q) (kq, Dq))) (fun _ j _ => L.length - (intOf j).toNat)
 case atStart => exact ⟨0, 0, R, n, D, Nat.zero_le _, rfl, rfl, Nat.le_refl _, by omega, H1.out.2.1, Kp.refl _ _, fun _ e => .inl e, Lib.hid (by rw [List.drop_zero]; exact HU.out)⟩
 case round =>
  obtain ⟨q, kq, Rq, nq, Dq, hq, rfl, rfl, hkq, hnq, hfi, hkp, hRq, HUP⟩ := hrel
  by_cases hlt : q < L.length
  ·
   have hlti : (q : Int) < (L.length : Int) := by omega
   obtain ⟨pb, rfl, hpb, hcs⟩ := HR.out.1 (by omega)
   have hnT : ¬ Tcg P M R g pb := fun e => by
    rcases e with e | e
    ·
     exact HR.out.2 _ rfl e
    ·
     have := H1.out.2.2; omega
   have hp1 : pb < w1.heap.size := Nat.lt_of_lt_of_le hpb H1.out.1.size
   have a0 := (hkp.cell (a := ⟨pb, q * 2, none⟩) hp1 hnT).trans ((Below.cell H1.out.1 (p := ⟨pb, q * 2, none⟩) hpb).trans (hcs q hlt).1)
   have a1 := (hkp.cell (a := ⟨pb, q * 2 + 1, none⟩) hp1 hnT).trans ((Below.cell H1.out.1 (p := ⟨pb, q * 2 + 1, none⟩) hpb).trans (hcs q hlt).2)
   obtain ⟨t, v, hp⟩ : ∃ t v, L[q] = (t, v) := ⟨_, _, rfl⟩
   rw [hp] at a0 a1
   simp only at a0 a1
   have hdr : L.drop q = (t, v) :: L.drop (q + 1) := by rw [← hp]; exact List.drop_eq_getElem_cons hlt
   rw [hdr] at HUP
   obtain ⟨V, hV⟩ : ∃ V, V = wr.alloc (.cells #[.int .i64 t, .int .i64 v] 26) := ⟨_, rfl⟩
   have gV : Gr wr V := by rw [hV]; exact Gr.alloc (Gr.refl wr) _
   have b0 : V.cell? ⟨wr.heap.size, 0, none⟩ = some (.int .i64 t) := by rw [hV]; go_simp
   have b1 : V.cell? ⟨wr.heap.size, 1, none⟩ = some (.int .i64 v) := by rw [hV]; go_simp
   have hz : wr.heap.size < V.heap.size := by rw [hV]; simp
   obtain ⟨og, hog⟩ : ∃ og, og = laysS ag xf m Dq t v now := ⟨_, rfl⟩
   have hla := wlays_any t v now hnow2 (by omega) V (hfi.gr gV)
   rw [← hog] at hla
   have HLA := Lib.hid hla
   have HV := Lib.hid hV
   have HGV := Lib.hid gV
   have HKP := Lib.hid (And.intro hkp hRq)
   have HLE := Lib.hid (And.intro hlt (And.intro hnq hkq))
   have hkqi : (kq : Int) ≤ 1000 := by omega
   clear hla hV gV hkp hRq hfi hcs hnT hp1 hpb hp hdr hnq hkq
   go_upto_region 10 with (fail)
   rw [← HV.out]
   clear HV a0 a1
   have HFIN : Hid (∀ (w8 : World) (R8 : Option Nat) (n8 : Nat) (D8 : List UInt8), n8 ≤ nq + 27 → FiM w8 X F P M R8 room n8 ag xf b cc m g d D8 → Kp (Tcg P M Rq g) V w8 → (∀ z, R8 = some z → Rq = some z ∨ V.heap.size ≤ z) → n8 ≤ n + 27 * (q + 1) ∧ FiM w8 X F P M R8 room n8 ag xf b cc m g d D8 ∧ Kp (Tcg P M R g) w1 w8 ∧ ∀ z, R8 = some z → R = some z ∨ w1.heap.size ≤ z) := Lib.hid (fun w8 R8 n8 D8 e1 e2 e3 e4 => ⟨by have := HLE.out.2.1; omega, e2, HKP.out.1.trans ((Kp.of_gr (Tcg P M Rq g) HGV.out).trans e3 (fun _ _ e => e)) (tcg_sub HKP.out.2), fun z hz => (e4 z hz).elim (HKP.out.2 z) (fun e => .inr (Nat.le_trans (Nat.le_trans HKP.out.1.size HGV.out.size) e))⟩)
   cases og with
   | none =>
    have HE : Hid (U = updS ag xf m now (L.drop (q + 1)) (kq, Dq)) := Lib.hid (by rw [HUP.out, updS, ← hog])
    clear hog HUP
    go_wp2_with (go_at_call 26; refine HLA.out.mono ?_; rintro e w8 ⟨rfl, R8, n8, hn8, hf8, hk8, hr8⟩; have H8 := HFIN.out w8 R8 n8 Dq hn8 hf8 hk8 hr8; have H8 := Lib.hid H8; clear hn8 hf8 hk8 hr8)
    go_roundw
    case rel => exact ⟨q + 1, kq, R8, n8, Dq, HLE.out.1, by go_num, rfl, by have := HLE.out.2.2; omega, H8.out.1, H8.out.2.1, H8.out.2.2.1, H8.out.2.2.2, HE⟩
    case measure => have := HLE.out.1; simp [intOf]; omega
   | some D8 =>
    have HE : Hid (U = updS ag xf m now (L.drop (q + 1)) (kq + 1, D8)) := Lib.hid (by rw [HUP.out, updS, ← hog])
    clear hog HUP
    go_wp2_with (go_at_call 26; refine HLA.out.mono ?_; rintro e w8 ⟨rfl, R8, n8, hn8, hf8, hk8, hr8⟩; have H8 := HFIN.out w8 R8 n8 D8 hn8 hf8 hk8 hr8; have H8 := Lib.hid H8; clear hn8 hf8 hk8 hr8)
    go_roundw
    case rel => exact ⟨q + 1, kq + 1, R8, n8, D8, HLE.out.1, by go_num, by go_num, by have := HLE.out.2.2; omega, H8.out.1, H8.out.2.1, H8.out.2.2.1, H8.out.2.2.2, HE⟩
    case measure => have := HLE.out.1; simp [intOf]; omega
  ·
   have hqe : q = L.length := by omega
   subst hqe
   rw [List.drop_length] at HUP
   have hU : U = (kq, Dq) := HUP.out
   have HFK := Lib.hid (And.intro hfi.fs.weak (And.intro hkp hRq))
   have HUE := Lib.hid hU
   clear hfi hkp hRq hU
   go_wp2_with (go_at_call 23; refine (sync_any _ HFK.out.1).mono ?_; rintro e w9 ⟨rfl, hF, hK⟩; have H9 := Lib.hid (And.intro hF hK); clear hF hK)
   go_ret2
   rw [HUE.out]
   refine ⟨rfl, H9.out.1, (((Kp.of_gr (Tch P M R) H1.out.1).trans HFK.out.2.1 (fun i hi e => ?_)).trans H9.out.2 (fun i _ e => .inl e))⟩
   rcases e with e | e
   ·
    exact e
   ·
    have := H1.out.2.2; omega
end Go.Proofs.Ytoncapkmaeghfaa
