import Derived.Test.YtoncapkmaeghfaaRunWiMay
import Derived.Test.YtoncapkmaeghfaaRunWiFet
import Derived.Test.YtoncapkmaeghfaaRunFxBase
import Derived.Deep.Light
set_option linter.all false
set_option maxRecDepth 1000000
set_option maxHeartbeats 12800000
namespace Go.Proofs.Ytoncapkmaeghfaa
open Go.RowKit
theorem nmA_eq:(⟨#[97]⟩:ByteArray)=nmA:=by kernel_rfl
theorem gr_tch {w w1 w2:World} {P M:Nat} {R:Option Nat} (g:Gr w w1) (k:Kp (Tch P M R) w1 w2) (hP:w.heap.size≤P) (hM:w.heap.size≤M) (hR:∀i,R=some i→w.heap.size≤i):Gr w w2:=
 ((Kp.of_gr (Tch P M R) g).trans k (fun _ _ e=>e)).gr (fun i hi e=>by
  rcases e with e|e|e
  ·
   omega
  ·
   omega
  ·
   have:=hR i e;omega)
theorem Ri.lit2 (w:World) (a b c d:Int) (T:TypeId):Ri (w.alloc (.cells #[.int .i64 a, .int .i64 b, .int .i64 c, .int .i64 d] T)) (some ⟨w.heap.size,0,none⟩) [(a,b),(c,d)]:=Ri.of_rows fun _=>by
 refine ⟨by simp,fun k hk=>?_⟩
 match k,hk with
 | 0,_=>exact ⟨by go_simp,by go_simp⟩
 | 1,_=>exact ⟨by go_simp,by go_simp⟩
theorem Ri.lit1 (w:World) (a b:Int) (T:TypeId):Ri (w.alloc (.cells #[.int .i64 a, .int .i64 b] T)) (some ⟨w.heap.size,0,none⟩) [(a,b)]:=Ri.of_rows fun _=>by
 refine ⟨by simp,fun k hk=>?_⟩
 match k,hk with
 | 0,_=>exact ⟨by go_simp,by go_simp⟩
theorem known7_any (w:World):Calls Try.prog 12 #[] w fun e w'=>e= .returned (.bool true)∧Gr w w':=by
 have hnm:=nmA_eq
 obtain ⟨KD,hKD⟩:∃KD,KD=(updS 2 0 kM 100 [(99,5)] (0,newS 2 0 kM)).2:=⟨_,rfl⟩
 have hF:=MayF.ofH kM_may
 have hok:HdOk 2 0 kM KD:=by rw[hKD];exact HdOk.upd hF _ _ (newS_ok 2 0 kM)
 have hop:=opS_hdr kM_may hok
 have hop0:=opS_hdr kM_may (newS_ok 2 0 kM)
 have hl0:((newS 2 0 kM).length:Int)≤1073741824:=by rw[(newS_ok 2 0 kM).1,kM_size];omega
 have hlK:(KD.length:Int)≤1073741824:=by rw[hok.1,kM_size];omega
 have hv:=known_v
 have hn:=known_n
 rw[←hKD] at hv
 have HK:=Lib.hid (And.intro hop (And.intro hop0 (And.intro hl0 (And.intro hlK (And.intro hv (And.intro hn hKD))))))
 clear hF hok hop hop0 hl0 hlK hv hn hKD hnm
 go_enter Try.func12,Try.ntmps12
 go_upto_region 3 with (go_at_call 8;refine (vnew_any 65536 (by omega) (by omega) _).mono ?_;rintro e w1 ⟨rfl,hf1,g1⟩;have H1:=Lib.hid (And.intro hf1 g1);clear hf1 g1)
 obtain ⟨V,hV⟩:∃V,V=(w1.alloc (.cells #[.int .i64 1, .int .i64 60, .int .i64 60, .int .i64 5] 30)).alloc (.cells #[.int .i64 2, .int .i64 0, .slice (some ⟨w1.heap.size,0,none⟩) 2 2] 24):=⟨_,rfl⟩
 have gV:Gr w1 V:=by rw[hV];exact Gr.alloc (Gr.alloc (Gr.refl w1) _) _
 have c0:V.cell? ⟨w1.heap.size+1,0,none⟩=some (.int .i64 2):=by rw[hV];go_simp
 have c1:V.cell? ⟨w1.heap.size+1,1,none⟩=some (.int .i64 0):=by rw[hV];go_simp
 have c2:V.cell? ⟨w1.heap.size+1,2,none⟩=some (.slice (some ⟨w1.heap.size,0,none⟩) 2 2):=by rw[hV];go_simp
 have hri:Ri V (some ⟨w1.heap.size,0,none⟩) (ints kM):=by
  rw[hV,show ints kM=[(1,60),(60,5)] from by kernel_rfl]
  exact (Ri.lit2 w1 1 60 60 5 _).gr (Gr.alloc (Gr.refl _) _)
 rw[←hV]
 obtain ⟨F,hF⟩:∃F,F=w.heap.size+3:=⟨_,rfl⟩
 obtain ⟨P,hP⟩:∃P,P=w.heap.size+1:=⟨_,rfl⟩
 obtain ⟨M,hM⟩:∃M,M=w.heap.size+2:=⟨_,rfl⟩
 rw[←hF,←hP,←hM] at H1
 rw[←hF]
 have HPM:=Lib.hid (show w.heap.size≤P∧w.heap.size≤M by omega)
 have hcr:=wcreate_any 2 0 (some ⟨w1.heap.size,0,none⟩) 2 kM kM_may (by decide) (by omega) (by rw[kM_size];omega) (by omega) V (H1.out.1.gr gV) hri
 rw[←nmA_eq] at hcr
 have HCR:Hid (Calls Try.prog 9 #[.pointer (some ⟨F,0,none⟩), .string ⟨#[97]⟩, .agg #[.int .i64 2, .int .i64 0, .slice (some ⟨w1.heap.size,0,none⟩) 2 2]] V fun e w'=>e= .returned (.int .i64 0)∧FsM (fun _=>False) w' F P M none 65536 0 (some (newS 2 0 kM))∧Kp (Tch P M none) V w'):=Lib.hid hcr
 have HGV:=Lib.hid (H1.out.2.trans gV)
 clear hV gV hri hF hP hM hcr
 go_upto_region 4 with (go_at_call 9;refine HCR.out.mono ?_;rintro e w2 ⟨rfl,hf2,hk2⟩;have H2:=Lib.hid (And.intro hf2 (gr_tch HGV.out hk2 HPM.out.1 HPM.out.2 (fun _ e=>by cases e)));clear hf2 hk2)
 clear c0 c1 c2
 obtain ⟨V3,hV3⟩:∃V3,V3=w2.alloc (.cells #[.int .i64 99, .int .i64 5] 26):=⟨_,rfl⟩
 have g3:Gr w2 V3:=by rw[hV3];exact Gr.alloc (Gr.refl w2) _
 have hup:=wupdate_any HK.out.2.2.1 HK.out.2.1 100 (by omega) (by omega) (some ⟨w2.heap.size,0,none⟩) 1 [(99,5)] (by decide) (by omega) V3 (H2.out.1.gr g3) (by rw[hV3];exact Ri.lit1 w2 99 5 _) (fun ad e=>by
  injection e with e
  subst e
  intro e
  have h1:=H2.out.1.lp
  have h2:=H2.out.1.lm
  rcases e with e|e|e
  ·
   simp only at e;omega
  ·
   simp only at e;omega
  ·
   cases e)
 rw[←nmA_eq] at hup
 have e1:(updS ((2:Nat):Int) ((0:Nat):Int) kM 100 [(99,5)] (0,newS 2 0 kM)).1=1:=HK.out.2.2.2.2.2.1
 have e2:(updS ((2:Nat):Int) ((0:Nat):Int) kM 100 [(99,5)] (0,newS 2 0 kM)).2=KD:=HK.out.2.2.2.2.2.2.symm
 rw[e1,e2] at hup
 have HUP:Hid (Calls Try.prog 10 #[.pointer (some ⟨F,0,none⟩), .string ⟨#[97]⟩, .int .i64 100, .slice (some ⟨w2.heap.size,0,none⟩) 1 1] V3 fun e w'=>e= .returned (.tuple #[.int .i64 1, .int .i64 0])∧FsM (fun _=>False) w' F P M none 65536 0 (some KD)∧Kp (Tch P M none) V3 w'):=Lib.hid hup
 have HG3:=Lib.hid (H2.out.2.trans g3)
 have HV3:=Lib.hid hV3
 clear hup e1 e2 hV3 g3
 have HFE:Hid (∀W,FsM (fun _=>False) W F P M none 65536 0 (some KD)→Calls Try.prog 13 #[.pointer (some ⟨F,0,none⟩), .string ⟨#[97]⟩, .int .i64 100, .int .i64 98, .int .i64 99] W fun e w'=>Gr W w'∧∃A c k,e= .returned (.tuple #[.agg #[.string nmA, .int .i64 99, .int .i64 k, .slice A 1 c, .int .i64 0], .int .i64 0])∧Rv w' A [⟨true,5⟩]):=Lib.hid (fun W hW=>by
  have h:=wfetch_any HK.out.2.2.2.1 HK.out.1 100 98 99 (by omega) (by omega) (by omega) (by omega) (by omega) (by rw[show spanS kM=300 from by kernel_rfl];omega) W hW
  rw[←nmA_eq] at h
  refine h.mono ?_
  rintro e w' ⟨hg,A,c,rfl,hr⟩
  rw[HK.out.2.2.2.2.1] at hr ⊢
  rw[known_s]
  exact ⟨hg,A,c,_,rfl,hr⟩)
 go_wp2_with (first|(go_at_call 10;rw[←HV3.out];refine HUP.out.mono ?_;rintro e w4 ⟨rfl,hf4,hk4⟩;have H4:=Lib.hid (And.intro hf4 (gr_tch HG3.out hk4 HPM.out.1 HPM.out.2 (fun _ e=>by cases e)));clear hf4 hk4)|(go_at_call 13;refine (HFE.out _ H4.out.1).mono ?_;rintro e w5 ⟨g5,A,c,k,rfl,hr⟩;obtain ⟨ad,rfl,hb,hx0,hx1⟩:=hr.at (show 0<1 by decide);have y0:w5.cell? ad=some (.bool true):=hx0;have y1:w5.cell? ⟨ad.block,ad.off+1,none⟩=some (.int .i64 5):=hx1;have HG5:=Lib.hid (H4.out.2.trans g5);clear g5 hr hx0 hx1))
 go_ret
 exact ⟨rfl,HG5.out.alloc _⟩
structure KeC (hb pb ab:Nat) (ag xf pt pn s k:Int) (A:Option Addr) (n c:Nat) (W:World):Prop where
 zh:hb<W.heap.size
 zp:pb<W.heap.size
 za:ab<W.heap.size
 h0:W.cell? ⟨hb,0,none⟩=some (.int .i64 ag)
 h1:W.cell? ⟨hb,1,none⟩=some (.int .i64 xf)
 h2:W.cell? ⟨hb,2,none⟩=some (.slice A n c)
 p0:W.cell? ⟨pb,0,none⟩=some (.int .i64 pt)
 p1:W.cell? ⟨pb,1,none⟩=some (.int .i64 pn)
 a0:W.cell? ⟨ab,0,none⟩=some (.int .i64 s)
 a1:W.cell? ⟨ab,1,none⟩=some (.int .i64 k)
theorem KeC.gr {hb pb ab:Nat} {ag xf pt pn s k:Int} {A:Option Addr} {n c:Nat} {W W':World} (h:KeC hb pb ab ag xf pt pn s k A n c W) (g:Gr W W'):KeC hb pb ab ag xf pt pn s k A n c W':=
 ⟨Nat.lt_of_lt_of_le h.zh g.size,Nat.lt_of_lt_of_le h.zp g.size,Nat.lt_of_lt_of_le h.za g.size,(Below.cell g (p:=⟨hb,0,none⟩) h.zh).trans h.h0,(Below.cell g (p:=⟨hb,1,none⟩) h.zh).trans h.h1,(Below.cell g (p:=⟨hb,2,none⟩) h.zh).trans h.h2,(Below.cell g (p:=⟨pb,0,none⟩) h.zp).trans h.p0,(Below.cell g (p:=⟨pb,1,none⟩) h.zp).trans h.p1,(Below.cell g (p:=⟨ab,0,none⟩) h.za).trans h.a0,(Below.cell g (p:=⟨ab,1,none⟩) h.za).trans h.a1⟩
theorem keeps_none (ag xf:Int) (A:Option Addr) (c:Nat) (l:List (Int×Int)) (now pt pn:Int) (B:Option Addr) (cb:Nat) (ps:List (Int×Int)) (later:Int) (w:World) (hr:Ri w A l) (h:smallB ag xf l=false∨(now<1∨4294867295<now∨later<0∨100000<later∨20<ps.length)) :
  Calls Try.prog 3 #[.agg #[.int .i64 ag, .int .i64 xf, .slice A l.length c], .int .i64 now, .agg #[.int .i64 pt, .int .i64 pn], .slice B ps.length cb, .int .i64 later] w fun e w'=>e= .returned (.bool true)∧Gr w w':=by
 obtain ⟨V,hV⟩:∃V,V=(w.alloc (.cells #[.int .i64 ag, .int .i64 xf, .slice A l.length c] 24)).alloc (.cells #[.int .i64 pt, .int .i64 pn] 26):=⟨_,rfl⟩
 have gV:Gr w V:=by rw[hV];exact Gr.alloc (Gr.alloc (Gr.refl w) _) _
 have hz:w.heap.size+1<V.heap.size:=by rw[hV];simp
 have hz0:w.heap.size<V.heap.size:=by omega
 have c0:V.cell? ⟨w.heap.size,0,none⟩=some (.int .i64 ag):=by rw[hV];go_simp
 have c1:V.cell? ⟨w.heap.size,1,none⟩=some (.int .i64 xf):=by rw[hV];go_simp
 have c2:V.cell? ⟨w.heap.size,2,none⟩=some (.slice A l.length c):=by rw[hV];go_simp
 have b0:V.cell? ⟨w.heap.size+1,0,none⟩=some (.int .i64 pt):=by rw[hV];go_simp
 have b1:V.cell? ⟨w.heap.size+1,1,none⟩=some (.int .i64 pn):=by rw[hV];go_simp
 have HV:=Lib.hid hV
 have HGV:=Lib.hid gV
 have HRV:=Lib.hid (hr.gr gV)
 have hsm:=fun W (hW:Ri W A l)=>small_any ag xf A c l W hW
 clear hV gV hr
 cases hS:smallB ag xf l
 ·
  rw[hS] at hsm
  have HSM:=Lib.hid hsm
  clear hsm hS h
  go_enter Try.func3,Try.ntmps3
  go_upto_region 1 with (fail)
  rw[←HV.out]
  clear HV
  go_wp2_with (go_at_call 6;refine (HSM.out _ HRV.out).mono ?_;rintro e w1 ⟨rfl,g1⟩;have d0:=(Below.cell g1 (p:=⟨w.heap.size,0,none⟩) hz0).trans c0;have d1:=(Below.cell g1 (p:=⟨w.heap.size,1,none⟩) hz0).trans c1;have d2:=(Below.cell g1 (p:=⟨w.heap.size,2,none⟩) hz0).trans c2;have f0:=(Below.cell g1 (p:=⟨w.heap.size+1,0,none⟩) hz).trans b0;have f1:=(Below.cell g1 (p:=⟨w.heap.size+1,1,none⟩) hz).trans b1;have hz1:=Nat.lt_of_lt_of_le hz g1.size;have hz10:=Nat.lt_of_lt_of_le hz0 g1.size;have HG1:=Lib.hid (HGV.out.trans g1);have HRW1:=Lib.hid (HRV.out.gr g1);clear c0 c1 c2 b0 b1 hz hz0 g1 HGV HRV)
  go_ret
  exact ⟨rfl,HG1.out⟩
 ·
  rw[hS] at hsm h
  have HSM:=Lib.hid hsm
  clear hsm hS
  by_cases h1:now<1
  ·
   clear h
   go_enter Try.func3,Try.ntmps3
   go_upto_region 1 with (fail)
   rw[←HV.out]
   clear HV
   go_wp2_with (go_at_call 6;refine (HSM.out _ HRV.out).mono ?_;rintro e w1 ⟨rfl,g1⟩;have d0:=(Below.cell g1 (p:=⟨w.heap.size,0,none⟩) hz0).trans c0;have d1:=(Below.cell g1 (p:=⟨w.heap.size,1,none⟩) hz0).trans c1;have d2:=(Below.cell g1 (p:=⟨w.heap.size,2,none⟩) hz0).trans c2;have f0:=(Below.cell g1 (p:=⟨w.heap.size+1,0,none⟩) hz).trans b0;have f1:=(Below.cell g1 (p:=⟨w.heap.size+1,1,none⟩) hz).trans b1;have hz1:=Nat.lt_of_lt_of_le hz g1.size;have hz10:=Nat.lt_of_lt_of_le hz0 g1.size;have HG1:=Lib.hid (HGV.out.trans g1);have HRW1:=Lib.hid (HRV.out.gr g1);clear c0 c1 c2 b0 b1 hz hz0 g1 HGV HRV)
   go_ret
   exact ⟨rfl,HG1.out⟩
  by_cases h2:4294867295<now
  ·
   clear h
   go_enter Try.func3,Try.ntmps3
   go_upto_region 1 with (fail)
   rw[←HV.out]
   clear HV
   go_wp2_with (go_at_call 6;refine (HSM.out _ HRV.out).mono ?_;rintro e w1 ⟨rfl,g1⟩;have d0:=(Below.cell g1 (p:=⟨w.heap.size,0,none⟩) hz0).trans c0;have d1:=(Below.cell g1 (p:=⟨w.heap.size,1,none⟩) hz0).trans c1;have d2:=(Below.cell g1 (p:=⟨w.heap.size,2,none⟩) hz0).trans c2;have f0:=(Below.cell g1 (p:=⟨w.heap.size+1,0,none⟩) hz).trans b0;have f1:=(Below.cell g1 (p:=⟨w.heap.size+1,1,none⟩) hz).trans b1;have hz1:=Nat.lt_of_lt_of_le hz g1.size;have hz10:=Nat.lt_of_lt_of_le hz0 g1.size;have HG1:=Lib.hid (HGV.out.trans g1);have HRW1:=Lib.hid (HRV.out.gr g1);clear c0 c1 c2 b0 b1 hz hz0 g1 HGV HRV)
   go_ret
   exact ⟨rfl,HG1.out⟩
  by_cases h3:later<0
  ·
   clear h
   go_enter Try.func3,Try.ntmps3
   go_upto_region 1 with (fail)
   rw[←HV.out]
   clear HV
   go_wp2_with (go_at_call 6;refine (HSM.out _ HRV.out).mono ?_;rintro e w1 ⟨rfl,g1⟩;have d0:=(Below.cell g1 (p:=⟨w.heap.size,0,none⟩) hz0).trans c0;have d1:=(Below.cell g1 (p:=⟨w.heap.size,1,none⟩) hz0).trans c1;have d2:=(Below.cell g1 (p:=⟨w.heap.size,2,none⟩) hz0).trans c2;have f0:=(Below.cell g1 (p:=⟨w.heap.size+1,0,none⟩) hz).trans b0;have f1:=(Below.cell g1 (p:=⟨w.heap.size+1,1,none⟩) hz).trans b1;have hz1:=Nat.lt_of_lt_of_le hz g1.size;have hz10:=Nat.lt_of_lt_of_le hz0 g1.size;have HG1:=Lib.hid (HGV.out.trans g1);have HRW1:=Lib.hid (HRV.out.gr g1);clear c0 c1 c2 b0 b1 hz hz0 g1 HGV HRV)
   go_ret
   exact ⟨rfl,HG1.out⟩
  by_cases h4:100000<later
  ·
   clear h
   go_enter Try.func3,Try.ntmps3
   go_upto_region 1 with (fail)
   rw[←HV.out]
   clear HV
   go_wp2_with (go_at_call 6;refine (HSM.out _ HRV.out).mono ?_;rintro e w1 ⟨rfl,g1⟩;have d0:=(Below.cell g1 (p:=⟨w.heap.size,0,none⟩) hz0).trans c0;have d1:=(Below.cell g1 (p:=⟨w.heap.size,1,none⟩) hz0).trans c1;have d2:=(Below.cell g1 (p:=⟨w.heap.size,2,none⟩) hz0).trans c2;have f0:=(Below.cell g1 (p:=⟨w.heap.size+1,0,none⟩) hz).trans b0;have f1:=(Below.cell g1 (p:=⟨w.heap.size+1,1,none⟩) hz).trans b1;have hz1:=Nat.lt_of_lt_of_le hz g1.size;have hz10:=Nat.lt_of_lt_of_le hz0 g1.size;have HG1:=Lib.hid (HGV.out.trans g1);have HRW1:=Lib.hid (HRV.out.gr g1);clear c0 c1 c2 b0 b1 hz hz0 g1 HGV HRV)
   go_ret
   exact ⟨rfl,HG1.out⟩
  have h5:(20:Int)<(ps.length:Int):=by rcases h with h|h|h|h|h|h;cases h;all_goals omega
  clear h
  go_enter Try.func3,Try.ntmps3
  go_upto_region 1 with (fail)
  rw[←HV.out]
  clear HV
  go_wp2_with (go_at_call 6;refine (HSM.out _ HRV.out).mono ?_;rintro e w1 ⟨rfl,g1⟩;have d0:=(Below.cell g1 (p:=⟨w.heap.size,0,none⟩) hz0).trans c0;have d1:=(Below.cell g1 (p:=⟨w.heap.size,1,none⟩) hz0).trans c1;have d2:=(Below.cell g1 (p:=⟨w.heap.size,2,none⟩) hz0).trans c2;have f0:=(Below.cell g1 (p:=⟨w.heap.size+1,0,none⟩) hz).trans b0;have f1:=(Below.cell g1 (p:=⟨w.heap.size+1,1,none⟩) hz).trans b1;have hz1:=Nat.lt_of_lt_of_le hz g1.size;have hz10:=Nat.lt_of_lt_of_le hz0 g1.size;have HG1:=Lib.hid (HGV.out.trans g1);have HRW1:=Lib.hid (HRV.out.gr g1);clear c0 c1 c2 b0 b1 hz hz0 g1 HGV HRV)
  go_ret
  exact ⟨rfl,HG1.out⟩
theorem keeps_out (ag xf:Nat) (A:Option Addr) (c:Nat) (m:Arcs) (now pt pn:Int) (B:Option Addr) (cb:Nat) (ps:List (Int×Int)) (later:Int) (hM:mayH ag xf (ints m)=true) (hS:sizeS m≤3000) (hcap:m.length≤c) (n1:1≤now) (n2:now≤4294867295) (l1:0≤later) (l2:later≤100000) (hps:ps.length≤20) (hpt:pt≤9223372036854775807) (h:pt<1∨now<pt∨(stpS m 0:Int)*cntS m 0≤now-pt∨alignS pt (stpS m 0)=0∨pn < -4611686018427387904∨4611686018427387904<pn) (w:World) (hr:Ri w A (ints m)) :
  Calls Try.prog 3 #[.agg #[.int .i64 ag, .int .i64 xf, .slice A m.length c], .int .i64 now, .agg #[.int .i64 pt, .int .i64 pn], .slice B ps.length cb, .int .i64 later] w fun e w'=>e= .returned (.bool true)∧Gr w w':=by
 obtain ⟨V,hV⟩:∃V,V=(w.alloc (.cells #[.int .i64 ag, .int .i64 xf, .slice A m.length c] 24)).alloc (.cells #[.int .i64 pt, .int .i64 pn] 26):=⟨_,rfl⟩
 have gV:Gr w V:=by rw[hV];exact Gr.alloc (Gr.alloc (Gr.refl w) _) _
 have hz:w.heap.size+1<V.heap.size:=by rw[hV];simp
 have hz0:w.heap.size<V.heap.size:=by omega
 have c0:V.cell? ⟨w.heap.size,0,none⟩=some (.int .i64 ag):=by rw[hV];go_simp
 have c1:V.cell? ⟨w.heap.size,1,none⟩=some (.int .i64 xf):=by rw[hV];go_simp
 have c2:V.cell? ⟨w.heap.size,2,none⟩=some (.slice A m.length c):=by rw[hV];go_simp
 have b0:V.cell? ⟨w.heap.size+1,0,none⟩=some (.int .i64 pt):=by rw[hV];go_simp
 have b1:V.cell? ⟨w.heap.size+1,1,none⟩=some (.int .i64 pn):=by rw[hV];go_simp
 have HV:=Lib.hid hV
 have HGV:=Lib.hid gV
 have hF:=MayF.ofH hM
 have hl0:0<m.length:=hF.l1
 have hrV:Ri V A (ints m):=hr.gr gV
 obtain ⟨ad,rfl,hb,hc⟩:=hrV (by rw[ints_len];exact hl0)
 obtain ⟨p0,p1⟩:=hc 0 (by rw[ints_len];exact hl0)
 rw[ints_at m 0 hl0,Nat.zero_mul,show ad.add 0=ad from by unfold Addr.add;simp] at p0 p1
 simp only at p0 p1
 rw[←stpS_at hl0] at p0
 rw[←cntS_at hl0] at p1
 have hsc:=hF.s1 0 hl0
 have hcc:=hF.c1 0 hl0
 have hsm:=fun W (hW:Ri W (some ad) (ints m))=>small_any ag xf (some ad) c (ints m) W hW
 have hSB:smallB ag xf (ints m)=true:=by unfold smallB;rw[hM,nats_ints,Bool.true_and,Nat.ble_eq];exact hS
 rw[ints_len,hSB] at hsm
 have HSM:=Lib.hid hsm
 have HRV:=Lib.hid hrV
 have HF:=Lib.hid hF
 have HM:=Lib.hid hM
 have q1:¬now<1:=by omega
 have q2:¬4294867295<now:=by omega
 have q3:¬later<0:=by omega
 have q4:¬100000<later:=by omega
 have q5:¬(20:Int)<(ps.length:Int):=by omega
 have q6:(0:Int)<(m.length:Int):=by omega
 obtain ⟨al,hal⟩:∃al,al=alignS pt (stpS m 0):=⟨_,rfl⟩
 have hali:=fun W=>ralign_any pt (stpS m 0) hpt W
 rw[←hal] at hali
 have hwm:=prod_small (stpS m 0:Int) (cntS m 0) (by omega) (by omega) (by omega) (by omega)
 obtain ⟨s,hs⟩:∃s:Int,s=(stpS m 0:Nat):=⟨_,rfl⟩
 obtain ⟨k,hk⟩:∃k:Int,k=(cntS m 0:Nat):=⟨_,rfl⟩
 have hs1:1≤s∧s≤16777216:=by omega
 have hk1:1≤k∧k≤16777216:=by omega
 have HSK:=Lib.hid (And.intro hs hk)
 rw[←hs] at p0 hwm hali hal h
 rw[←hk] at p1 hwm h
 have hpr:1≤s*k∧s*k≤281474976710656:=⟨by have:=Int.mul_le_mul hs1.1 hk1.1 (by omega) (by omega);omega,by have:=Int.mul_le_mul hs1.2 hk1.2 (by omega) (by omega);omega⟩
 have HALI:=Lib.hid hali
 have HAL:=Lib.hid hal
 rw[←hal] at h
 clear hV gV hrV hc hsm hSB hali hal hs hk hsc hcc hF hM hS hr
 by_cases o1:pt<1
 ·
  clear h
  go_enter Try.func3,Try.ntmps3
  go_upto_region 1 with (fail)
  rw[←HV.out]
  clear HV
  go_upto_region 4 with (go_at_call 6;refine (HSM.out _ HRV.out).mono ?_;rintro e w1 ⟨rfl,g1⟩;have d0:=(Below.cell g1 (p:=⟨w.heap.size,0,none⟩) hz0).trans c0;have d1:=(Below.cell g1 (p:=⟨w.heap.size,1,none⟩) hz0).trans c1;have d2:=(Below.cell g1 (p:=⟨w.heap.size,2,none⟩) hz0).trans c2;have f0:=(Below.cell g1 (p:=⟨w.heap.size+1,0,none⟩) hz).trans b0;have f1:=(Below.cell g1 (p:=⟨w.heap.size+1,1,none⟩) hz).trans b1;have hz1:=Nat.lt_of_lt_of_le hz g1.size;have hz10:=Nat.lt_of_lt_of_le hz0 g1.size;have HG1:=Lib.hid (HGV.out.trans g1);have HRW1:=Lib.hid (HRV.out.gr g1);have y0:=(Below.cell g1 (p:=ad) hb).trans p0;have y1:=(Below.cell g1 (p:=⟨ad.block,ad.off+1,none⟩) hb).trans p1;have HGW:=Lib.hid g1;clear p0 p1 hb;clear c0 c1 c2 b0 b1 hz hz0 g1 HGV HRV)
  have C1:KeC w.heap.size (w.heap.size+1) w1.heap.size ag xf pt pn s k (some ad) m.length c (w1.alloc (.cells #[.int .i64 s, .int .i64 k] 30)):=by
   have gA:Gr w1 (w1.alloc (.cells #[.int .i64 s, .int .i64 k] 30)):=Gr.alloc (Gr.refl w1) _
   refine ⟨Nat.lt_of_lt_of_le hz10 gA.size,Nat.lt_of_lt_of_le hz1 gA.size,by simp,(Below.cell gA (p:=⟨w.heap.size,0,none⟩) hz10).trans d0,(Below.cell gA (p:=⟨w.heap.size,1,none⟩) hz10).trans d1,(Below.cell gA (p:=⟨w.heap.size,2,none⟩) hz10).trans d2,(Below.cell gA (p:=⟨w.heap.size+1,0,none⟩) hz1).trans f0,(Below.cell gA (p:=⟨w.heap.size+1,1,none⟩) hz1).trans f1,by go_simp,by go_simp⟩
  have HGA:Hid (Gr w (w1.alloc (.cells #[.int .i64 s, .int .i64 k] 30))∧Gr V (w1.alloc (.cells #[.int .i64 s, .int .i64 k] 30))):=Lib.hid ⟨HG1.out.alloc _,HGW.out.alloc _⟩
  have HRA:=Lib.hid (HRW1.out.gr (Gr.alloc (Gr.refl w1) (.cells #[.int .i64 s, .int .i64 k] 30)))
  obtain ⟨V2,hV2⟩:∃V2,V2=w1.alloc (.cells #[.int .i64 s, .int .i64 k] 30):=⟨_,rfl⟩
  rw[←hV2] at C1 HGA HRA ⊢
  obtain ⟨hb,hhb⟩:∃hb,hb=w.heap.size:=⟨_,rfl⟩
  obtain ⟨pb,hpb⟩:∃pb,pb=w.heap.size+1:=⟨_,rfl⟩
  obtain ⟨ab,hab⟩:∃ab,ab=w1.heap.size:=⟨_,rfl⟩
  rw[←hpb,←hhb,←hab] at C1
  rw[←hpb,←hhb,←hab]
  clear hV2 hhb hpb hab d0 d1 d2 f0 f1 hz1 hz10 y0 y1 HG1 HRW1 HGW
  have HC1:=Lib.hid C1
  obtain ⟨zh,zp,za,h0,h1,h2,r0,r1,a0,a1⟩:=C1
  go_wp2_with (go_at_call 7;refine (HALI.out _).mono ?_;rintro e w2 ⟨rfl,rfl⟩)
  go_ret
  exact ⟨rfl,HGA.out.1⟩
 by_cases o2:now<pt
 ·
  clear h
  go_enter Try.func3,Try.ntmps3
  go_upto_region 1 with (fail)
  rw[←HV.out]
  clear HV
  go_upto_region 4 with (go_at_call 6;refine (HSM.out _ HRV.out).mono ?_;rintro e w1 ⟨rfl,g1⟩;have d0:=(Below.cell g1 (p:=⟨w.heap.size,0,none⟩) hz0).trans c0;have d1:=(Below.cell g1 (p:=⟨w.heap.size,1,none⟩) hz0).trans c1;have d2:=(Below.cell g1 (p:=⟨w.heap.size,2,none⟩) hz0).trans c2;have f0:=(Below.cell g1 (p:=⟨w.heap.size+1,0,none⟩) hz).trans b0;have f1:=(Below.cell g1 (p:=⟨w.heap.size+1,1,none⟩) hz).trans b1;have hz1:=Nat.lt_of_lt_of_le hz g1.size;have hz10:=Nat.lt_of_lt_of_le hz0 g1.size;have HG1:=Lib.hid (HGV.out.trans g1);have HRW1:=Lib.hid (HRV.out.gr g1);have y0:=(Below.cell g1 (p:=ad) hb).trans p0;have y1:=(Below.cell g1 (p:=⟨ad.block,ad.off+1,none⟩) hb).trans p1;have HGW:=Lib.hid g1;clear p0 p1 hb;clear c0 c1 c2 b0 b1 hz hz0 g1 HGV HRV)
  have C1:KeC w.heap.size (w.heap.size+1) w1.heap.size ag xf pt pn s k (some ad) m.length c (w1.alloc (.cells #[.int .i64 s, .int .i64 k] 30)):=by
   have gA:Gr w1 (w1.alloc (.cells #[.int .i64 s, .int .i64 k] 30)):=Gr.alloc (Gr.refl w1) _
   refine ⟨Nat.lt_of_lt_of_le hz10 gA.size,Nat.lt_of_lt_of_le hz1 gA.size,by simp,(Below.cell gA (p:=⟨w.heap.size,0,none⟩) hz10).trans d0,(Below.cell gA (p:=⟨w.heap.size,1,none⟩) hz10).trans d1,(Below.cell gA (p:=⟨w.heap.size,2,none⟩) hz10).trans d2,(Below.cell gA (p:=⟨w.heap.size+1,0,none⟩) hz1).trans f0,(Below.cell gA (p:=⟨w.heap.size+1,1,none⟩) hz1).trans f1,by go_simp,by go_simp⟩
  have HGA:Hid (Gr w (w1.alloc (.cells #[.int .i64 s, .int .i64 k] 30))∧Gr V (w1.alloc (.cells #[.int .i64 s, .int .i64 k] 30))):=Lib.hid ⟨HG1.out.alloc _,HGW.out.alloc _⟩
  have HRA:=Lib.hid (HRW1.out.gr (Gr.alloc (Gr.refl w1) (.cells #[.int .i64 s, .int .i64 k] 30)))
  obtain ⟨V2,hV2⟩:∃V2,V2=w1.alloc (.cells #[.int .i64 s, .int .i64 k] 30):=⟨_,rfl⟩
  rw[←hV2] at C1 HGA HRA ⊢
  obtain ⟨hb,hhb⟩:∃hb,hb=w.heap.size:=⟨_,rfl⟩
  obtain ⟨pb,hpb⟩:∃pb,pb=w.heap.size+1:=⟨_,rfl⟩
  obtain ⟨ab,hab⟩:∃ab,ab=w1.heap.size:=⟨_,rfl⟩
  rw[←hpb,←hhb,←hab] at C1
  rw[←hpb,←hhb,←hab]
  clear hV2 hhb hpb hab d0 d1 d2 f0 f1 hz1 hz10 y0 y1 HG1 HRW1 HGW
  have HC1:=Lib.hid C1
  obtain ⟨zh,zp,za,h0,h1,h2,r0,r1,a0,a1⟩:=C1
  go_wp2_with (go_at_call 7;refine (HALI.out _).mono ?_;rintro e w2 ⟨rfl,rfl⟩)
  go_ret
  exact ⟨rfl,HGA.out.1⟩
 have wd:IntKind.i64.wrap (now-pt)=now-pt:=IntWalk.i64_in _ (by omega)
 by_cases o3:s*k≤now-pt
 ·
  clear h
  go_enter Try.func3,Try.ntmps3
  go_upto_region 1 with (fail)
  rw[←HV.out]
  clear HV
  go_upto_region 4 with (go_at_call 6;refine (HSM.out _ HRV.out).mono ?_;rintro e w1 ⟨rfl,g1⟩;have d0:=(Below.cell g1 (p:=⟨w.heap.size,0,none⟩) hz0).trans c0;have d1:=(Below.cell g1 (p:=⟨w.heap.size,1,none⟩) hz0).trans c1;have d2:=(Below.cell g1 (p:=⟨w.heap.size,2,none⟩) hz0).trans c2;have f0:=(Below.cell g1 (p:=⟨w.heap.size+1,0,none⟩) hz).trans b0;have f1:=(Below.cell g1 (p:=⟨w.heap.size+1,1,none⟩) hz).trans b1;have hz1:=Nat.lt_of_lt_of_le hz g1.size;have hz10:=Nat.lt_of_lt_of_le hz0 g1.size;have HG1:=Lib.hid (HGV.out.trans g1);have HRW1:=Lib.hid (HRV.out.gr g1);have y0:=(Below.cell g1 (p:=ad) hb).trans p0;have y1:=(Below.cell g1 (p:=⟨ad.block,ad.off+1,none⟩) hb).trans p1;have HGW:=Lib.hid g1;clear p0 p1 hb;clear c0 c1 c2 b0 b1 hz hz0 g1 HGV HRV)
  have C1:KeC w.heap.size (w.heap.size+1) w1.heap.size ag xf pt pn s k (some ad) m.length c (w1.alloc (.cells #[.int .i64 s, .int .i64 k] 30)):=by
   have gA:Gr w1 (w1.alloc (.cells #[.int .i64 s, .int .i64 k] 30)):=Gr.alloc (Gr.refl w1) _
   refine ⟨Nat.lt_of_lt_of_le hz10 gA.size,Nat.lt_of_lt_of_le hz1 gA.size,by simp,(Below.cell gA (p:=⟨w.heap.size,0,none⟩) hz10).trans d0,(Below.cell gA (p:=⟨w.heap.size,1,none⟩) hz10).trans d1,(Below.cell gA (p:=⟨w.heap.size,2,none⟩) hz10).trans d2,(Below.cell gA (p:=⟨w.heap.size+1,0,none⟩) hz1).trans f0,(Below.cell gA (p:=⟨w.heap.size+1,1,none⟩) hz1).trans f1,by go_simp,by go_simp⟩
  have HGA:Hid (Gr w (w1.alloc (.cells #[.int .i64 s, .int .i64 k] 30))∧Gr V (w1.alloc (.cells #[.int .i64 s, .int .i64 k] 30))):=Lib.hid ⟨HG1.out.alloc _,HGW.out.alloc _⟩
  have HRA:=Lib.hid (HRW1.out.gr (Gr.alloc (Gr.refl w1) (.cells #[.int .i64 s, .int .i64 k] 30)))
  obtain ⟨V2,hV2⟩:∃V2,V2=w1.alloc (.cells #[.int .i64 s, .int .i64 k] 30):=⟨_,rfl⟩
  rw[←hV2] at C1 HGA HRA ⊢
  obtain ⟨hb,hhb⟩:∃hb,hb=w.heap.size:=⟨_,rfl⟩
  obtain ⟨pb,hpb⟩:∃pb,pb=w.heap.size+1:=⟨_,rfl⟩
  obtain ⟨ab,hab⟩:∃ab,ab=w1.heap.size:=⟨_,rfl⟩
  rw[←hpb,←hhb,←hab] at C1
  rw[←hpb,←hhb,←hab]
  clear hV2 hhb hpb hab d0 d1 d2 f0 f1 hz1 hz10 y0 y1 HG1 HRW1 HGW
  have HC1:=Lib.hid C1
  obtain ⟨zh,zp,za,h0,h1,h2,r0,r1,a0,a1⟩:=C1
  go_wp2_with (go_at_call 7;refine (HALI.out _).mono ?_;rintro e w2 ⟨rfl,rfl⟩)
  go_ret
  exact ⟨rfl,HGA.out.1⟩
 by_cases o4:al=0
 ·
  clear h
  go_enter Try.func3,Try.ntmps3
  go_upto_region 1 with (fail)
  rw[←HV.out]
  clear HV
  go_upto_region 4 with (go_at_call 6;refine (HSM.out _ HRV.out).mono ?_;rintro e w1 ⟨rfl,g1⟩;have d0:=(Below.cell g1 (p:=⟨w.heap.size,0,none⟩) hz0).trans c0;have d1:=(Below.cell g1 (p:=⟨w.heap.size,1,none⟩) hz0).trans c1;have d2:=(Below.cell g1 (p:=⟨w.heap.size,2,none⟩) hz0).trans c2;have f0:=(Below.cell g1 (p:=⟨w.heap.size+1,0,none⟩) hz).trans b0;have f1:=(Below.cell g1 (p:=⟨w.heap.size+1,1,none⟩) hz).trans b1;have hz1:=Nat.lt_of_lt_of_le hz g1.size;have hz10:=Nat.lt_of_lt_of_le hz0 g1.size;have HG1:=Lib.hid (HGV.out.trans g1);have HRW1:=Lib.hid (HRV.out.gr g1);have y0:=(Below.cell g1 (p:=ad) hb).trans p0;have y1:=(Below.cell g1 (p:=⟨ad.block,ad.off+1,none⟩) hb).trans p1;have HGW:=Lib.hid g1;clear p0 p1 hb;clear c0 c1 c2 b0 b1 hz hz0 g1 HGV HRV)
  have C1:KeC w.heap.size (w.heap.size+1) w1.heap.size ag xf pt pn s k (some ad) m.length c (w1.alloc (.cells #[.int .i64 s, .int .i64 k] 30)):=by
   have gA:Gr w1 (w1.alloc (.cells #[.int .i64 s, .int .i64 k] 30)):=Gr.alloc (Gr.refl w1) _
   refine ⟨Nat.lt_of_lt_of_le hz10 gA.size,Nat.lt_of_lt_of_le hz1 gA.size,by simp,(Below.cell gA (p:=⟨w.heap.size,0,none⟩) hz10).trans d0,(Below.cell gA (p:=⟨w.heap.size,1,none⟩) hz10).trans d1,(Below.cell gA (p:=⟨w.heap.size,2,none⟩) hz10).trans d2,(Below.cell gA (p:=⟨w.heap.size+1,0,none⟩) hz1).trans f0,(Below.cell gA (p:=⟨w.heap.size+1,1,none⟩) hz1).trans f1,by go_simp,by go_simp⟩
  have HGA:Hid (Gr w (w1.alloc (.cells #[.int .i64 s, .int .i64 k] 30))∧Gr V (w1.alloc (.cells #[.int .i64 s, .int .i64 k] 30))):=Lib.hid ⟨HG1.out.alloc _,HGW.out.alloc _⟩
  have HRA:=Lib.hid (HRW1.out.gr (Gr.alloc (Gr.refl w1) (.cells #[.int .i64 s, .int .i64 k] 30)))
  obtain ⟨V2,hV2⟩:∃V2,V2=w1.alloc (.cells #[.int .i64 s, .int .i64 k] 30):=⟨_,rfl⟩
  rw[←hV2] at C1 HGA HRA ⊢
  obtain ⟨hb,hhb⟩:∃hb,hb=w.heap.size:=⟨_,rfl⟩
  obtain ⟨pb,hpb⟩:∃pb,pb=w.heap.size+1:=⟨_,rfl⟩
  obtain ⟨ab,hab⟩:∃ab,ab=w1.heap.size:=⟨_,rfl⟩
  rw[←hpb,←hhb,←hab] at C1
  rw[←hpb,←hhb,←hab]
  clear hV2 hhb hpb hab d0 d1 d2 f0 f1 hz1 hz10 y0 y1 HG1 HRW1 HGW
  have HC1:=Lib.hid C1
  obtain ⟨zh,zp,za,h0,h1,h2,r0,r1,a0,a1⟩:=C1
  go_wp2_with (go_at_call 7;refine (HALI.out _).mono ?_;rintro e w2 ⟨rfl,rfl⟩)
  go_ret
  exact ⟨rfl,HGA.out.1⟩
 by_cases o5:pn < -4611686018427387904
 ·
  clear h
  go_enter Try.func3,Try.ntmps3
  go_upto_region 1 with (fail)
  rw[←HV.out]
  clear HV
  go_upto_region 4 with (go_at_call 6;refine (HSM.out _ HRV.out).mono ?_;rintro e w1 ⟨rfl,g1⟩;have d0:=(Below.cell g1 (p:=⟨w.heap.size,0,none⟩) hz0).trans c0;have d1:=(Below.cell g1 (p:=⟨w.heap.size,1,none⟩) hz0).trans c1;have d2:=(Below.cell g1 (p:=⟨w.heap.size,2,none⟩) hz0).trans c2;have f0:=(Below.cell g1 (p:=⟨w.heap.size+1,0,none⟩) hz).trans b0;have f1:=(Below.cell g1 (p:=⟨w.heap.size+1,1,none⟩) hz).trans b1;have hz1:=Nat.lt_of_lt_of_le hz g1.size;have hz10:=Nat.lt_of_lt_of_le hz0 g1.size;have HG1:=Lib.hid (HGV.out.trans g1);have HRW1:=Lib.hid (HRV.out.gr g1);have y0:=(Below.cell g1 (p:=ad) hb).trans p0;have y1:=(Below.cell g1 (p:=⟨ad.block,ad.off+1,none⟩) hb).trans p1;have HGW:=Lib.hid g1;clear p0 p1 hb;clear c0 c1 c2 b0 b1 hz hz0 g1 HGV HRV)
  have C1:KeC w.heap.size (w.heap.size+1) w1.heap.size ag xf pt pn s k (some ad) m.length c (w1.alloc (.cells #[.int .i64 s, .int .i64 k] 30)):=by
   have gA:Gr w1 (w1.alloc (.cells #[.int .i64 s, .int .i64 k] 30)):=Gr.alloc (Gr.refl w1) _
   refine ⟨Nat.lt_of_lt_of_le hz10 gA.size,Nat.lt_of_lt_of_le hz1 gA.size,by simp,(Below.cell gA (p:=⟨w.heap.size,0,none⟩) hz10).trans d0,(Below.cell gA (p:=⟨w.heap.size,1,none⟩) hz10).trans d1,(Below.cell gA (p:=⟨w.heap.size,2,none⟩) hz10).trans d2,(Below.cell gA (p:=⟨w.heap.size+1,0,none⟩) hz1).trans f0,(Below.cell gA (p:=⟨w.heap.size+1,1,none⟩) hz1).trans f1,by go_simp,by go_simp⟩
  have HGA:Hid (Gr w (w1.alloc (.cells #[.int .i64 s, .int .i64 k] 30))∧Gr V (w1.alloc (.cells #[.int .i64 s, .int .i64 k] 30))):=Lib.hid ⟨HG1.out.alloc _,HGW.out.alloc _⟩
  have HRA:=Lib.hid (HRW1.out.gr (Gr.alloc (Gr.refl w1) (.cells #[.int .i64 s, .int .i64 k] 30)))
  obtain ⟨V2,hV2⟩:∃V2,V2=w1.alloc (.cells #[.int .i64 s, .int .i64 k] 30):=⟨_,rfl⟩
  rw[←hV2] at C1 HGA HRA ⊢
  obtain ⟨hb,hhb⟩:∃hb,hb=w.heap.size:=⟨_,rfl⟩
  obtain ⟨pb,hpb⟩:∃pb,pb=w.heap.size+1:=⟨_,rfl⟩
  obtain ⟨ab,hab⟩:∃ab,ab=w1.heap.size:=⟨_,rfl⟩
  rw[←hpb,←hhb,←hab] at C1
  rw[←hpb,←hhb,←hab]
  clear hV2 hhb hpb hab d0 d1 d2 f0 f1 hz1 hz10 y0 y1 HG1 HRW1 HGW
  have HC1:=Lib.hid C1
  obtain ⟨zh,zp,za,h0,h1,h2,r0,r1,a0,a1⟩:=C1
  go_wp2_with (go_at_call 7;refine (HALI.out _).mono ?_;rintro e w2 ⟨rfl,rfl⟩)
  go_ret
  exact ⟨rfl,HGA.out.1⟩
 have o6:4611686018427387904<pn:=by rcases h with h|h|h|h|h|h<;>first|exact absurd h ‹_› | (exfalso;omega)|omega
 clear h
 go_enter Try.func3,Try.ntmps3
 go_upto_region 1 with (fail)
 rw[←HV.out]
 clear HV
 go_upto_region 4 with (go_at_call 6;refine (HSM.out _ HRV.out).mono ?_;rintro e w1 ⟨rfl,g1⟩;have d0:=(Below.cell g1 (p:=⟨w.heap.size,0,none⟩) hz0).trans c0;have d1:=(Below.cell g1 (p:=⟨w.heap.size,1,none⟩) hz0).trans c1;have d2:=(Below.cell g1 (p:=⟨w.heap.size,2,none⟩) hz0).trans c2;have f0:=(Below.cell g1 (p:=⟨w.heap.size+1,0,none⟩) hz).trans b0;have f1:=(Below.cell g1 (p:=⟨w.heap.size+1,1,none⟩) hz).trans b1;have hz1:=Nat.lt_of_lt_of_le hz g1.size;have hz10:=Nat.lt_of_lt_of_le hz0 g1.size;have HG1:=Lib.hid (HGV.out.trans g1);have HRW1:=Lib.hid (HRV.out.gr g1);have y0:=(Below.cell g1 (p:=ad) hb).trans p0;have y1:=(Below.cell g1 (p:=⟨ad.block,ad.off+1,none⟩) hb).trans p1;have HGW:=Lib.hid g1;clear p0 p1 hb;clear c0 c1 c2 b0 b1 hz hz0 g1 HGV HRV)
 have C1:KeC w.heap.size (w.heap.size+1) w1.heap.size ag xf pt pn s k (some ad) m.length c (w1.alloc (.cells #[.int .i64 s, .int .i64 k] 30)):=by
  have gA:Gr w1 (w1.alloc (.cells #[.int .i64 s, .int .i64 k] 30)):=Gr.alloc (Gr.refl w1) _
  refine ⟨Nat.lt_of_lt_of_le hz10 gA.size,Nat.lt_of_lt_of_le hz1 gA.size,by simp,(Below.cell gA (p:=⟨w.heap.size,0,none⟩) hz10).trans d0,(Below.cell gA (p:=⟨w.heap.size,1,none⟩) hz10).trans d1,(Below.cell gA (p:=⟨w.heap.size,2,none⟩) hz10).trans d2,(Below.cell gA (p:=⟨w.heap.size+1,0,none⟩) hz1).trans f0,(Below.cell gA (p:=⟨w.heap.size+1,1,none⟩) hz1).trans f1,by go_simp,by go_simp⟩
 have HGA:Hid (Gr w (w1.alloc (.cells #[.int .i64 s, .int .i64 k] 30))∧Gr V (w1.alloc (.cells #[.int .i64 s, .int .i64 k] 30))):=Lib.hid ⟨HG1.out.alloc _,HGW.out.alloc _⟩
 have HRA:=Lib.hid (HRW1.out.gr (Gr.alloc (Gr.refl w1) (.cells #[.int .i64 s, .int .i64 k] 30)))
 obtain ⟨V2,hV2⟩:∃V2,V2=w1.alloc (.cells #[.int .i64 s, .int .i64 k] 30):=⟨_,rfl⟩
 rw[←hV2] at C1 HGA HRA ⊢
 obtain ⟨hb,hhb⟩:∃hb,hb=w.heap.size:=⟨_,rfl⟩
 obtain ⟨pb,hpb⟩:∃pb,pb=w.heap.size+1:=⟨_,rfl⟩
 obtain ⟨ab,hab⟩:∃ab,ab=w1.heap.size:=⟨_,rfl⟩
 rw[←hpb,←hhb,←hab] at C1
 rw[←hpb,←hhb,←hab]
 clear hV2 hhb hpb hab d0 d1 d2 f0 f1 hz1 hz10 y0 y1 HG1 HRW1 HGW
 have HC1:=Lib.hid C1
 obtain ⟨zh,zp,za,h0,h1,h2,r0,r1,a0,a1⟩:=C1
 go_wp2_with (go_at_call 7;refine (HALI.out _).mono ?_;rintro e w2 ⟨rfl,rfl⟩)
 go_ret
 exact ⟨rfl,HGA.out.1⟩
end Go.Proofs.Ytoncapkmaeghfaa
