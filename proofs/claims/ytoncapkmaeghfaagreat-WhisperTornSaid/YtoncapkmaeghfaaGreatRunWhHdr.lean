import Derived.Test.YtoncapkmaeghfaaGreatRunVfDoes
import Derived.Test.YtoncapkmaeghfaaGreatRunWhFit
import Derived.Deep.CutRange
import Derived.Test.YtoncapkmaeghfaaGreatRunVfFs
set_option linter.all false
set_option maxRecDepth 1000000
set_option maxHeartbeats 12800000
namespace Go.Proofs.YtoncapkmaeghfaaGreat
open Go.RowKit
def fourS (l:List Nat):List UInt8:=l.flatMap fun n=>beB n 4
theorem fourS_len (l:List Nat):(fourS l).length=4*l.length:=by
 induction l with
 | nil=>rfl
 | cons a r ih=>
  rw[show fourS (a::r)=beB a 4++fourS r from rfl,List.length_append,beB_len,ih,List.length_cons]
  omega
theorem fourS_app (l r:List Nat):fourS (l++r)=fourS l++fourS r:=by simp[fourS]
theorem fourS_take {l:List Nat} {k:Nat} (h:k<l.length):fourS (l.take (k+1))=fourS (l.take k)++beB l[k] 4:=by
 rw[List.take_succ_eq_append_getElem h,fourS_app]
 simp[fourS]
def headN (ag xf:Nat) (m:List (Nat×Nat)):List Nat:=[ag,(lastS m).1*(lastS m).2,xf,m.length]
def archN (m:List (Nat×Nat)) (k:Nat):List Nat:=[offS m k,(m.getD k (0,0)).1,(m.getD k (0,0)).2]
def archsB (m:List (Nat×Nat)):Nat→List UInt8
 | 0=>[]
 | k+1=>archsB m k++fourS (archN m k)
def hdrS (ag xf:Nat) (m:List (Nat×Nat)):List UInt8:=fourS (headN ag xf m)++archsB m m.length
theorem archsB_len (m:List (Nat×Nat)):∀k,(archsB m k).length=12*k
 | 0=>rfl
 | k+1=>by rw[archsB,List.length_append,archsB_len m k,fourS_len];simp only[archN,List.length_cons,List.length_nil];omega
theorem hdrS_len (ag xf:Nat) (m:List (Nat×Nat)):(hdrS ag xf m).length=16+12*m.length:=by
 rw[hdrS,List.length_append,fourS_len,archsB_len]
 rfl
def RetHd (l:List UInt8) (w:World) (e:Ending) (w':World):Prop:=∃A c,e= .returned (.tuple #[.slice A l.length c, .int .i64 0])∧l.length≤c∧Rb w' A l∧Gr w w'∧∀ad,A=some ad→w.heap.size≤ad.block
theorem hencode_no (ag xf:Int) (A:Option Addr) (c:Nat) (l:List (Int×Int)) (hll:l.length≤400) (hM:mayH ag xf l=false) (w:World) (hr:Ri w A l):Calls Tryz.prog 31 #[.agg #[.int .i64 ag, .int .i64 xf, .slice A l.length c]] w fun e w'=>e= .returned (.tuple #[.slice none 0 0, .int .i64 1])∧Gr w w':=by
 obtain ⟨V,hV⟩:∃V,V=w.alloc (.cells #[.int .i64 ag, .int .i64 xf, .slice A l.length c] 24):=⟨_,rfl⟩
 have gV:Gr w V:=by rw[hV];exact Gr.alloc (Gr.refl w) _
 have hz:w.heap.size<V.heap.size:=by rw[hV];simp
 have c0:V.cell? ⟨w.heap.size,0,none⟩=some (.int .i64 ag):=by rw[hV];go_simp
 have c1:V.cell? ⟨w.heap.size,1,none⟩=some (.int .i64 xf):=by rw[hV];go_simp
 have c2:V.cell? ⟨w.heap.size,2,none⟩=some (.slice A l.length c):=by rw[hV];go_simp
 have HV:=Lib.hid hV
 have HG:=Lib.hid gV
 have HR:=Lib.hid (hr.gr gV)
 clear hV gV hr
 have hck:=fun W (hW:Ri W A l)=>whead_check ag xf A c l hll W hW
 rw[hM] at hck
 have HCK:=Lib.hid hck
 clear hck hM hll
 go_enter Tryz.func31,Tryz.ntmps31
 go_upto_region 1 with (fail)
 rw[←HV.out]
 clear HV
 go_wp2_with (go_at_call 67;refine (HCK.out _ HR.out).mono ?_;rintro e w1 ⟨rfl,g1⟩;have d0:=(Below.cell g1 (p:=⟨w.heap.size,0,none⟩) hz).trans c0;have d1:=(Below.cell g1 (p:=⟨w.heap.size,1,none⟩) hz).trans c1;have d2:=(Below.cell g1 (p:=⟨w.heap.size,2,none⟩) hz).trans c2;have hzV:=Nat.lt_of_lt_of_le hz g1.size;have HG1:=Lib.hid (HG.out.trans g1);have HR1:=Lib.hid (HR.out.gr g1);clear c0 c1 c2 hz g1 HG HR;have c0:=d0;have c1:=d1;have c2:=d2;clear d0 d1 d2)
 go_ret2
 exact ⟨rfl,HG1.out⟩
theorem hencode_any (ag xf:Nat) (A:Option Addr) (c:Nat) (m:List (Nat×Nat)) (hM:mayH ag xf (ints m)=true) (hcap:m.length≤c) (w:World) (hr:Ri w A (ints m)):Calls Tryz.prog 31 #[.agg #[.int .i64 ag, .int .i64 xf, .slice A m.length c]] w (RetHd (hdrS ag xf m) w):=by
 obtain ⟨i0,hi0,hz0,hz1,hz2⟩:=info_parts info_u8
 obtain ⟨l,hl⟩:∃l,l=ints m:=⟨_,rfl⟩
 have hnm:=nats_ints m
 have hm:mayS m=true:=by have h:=hM;unfold mayH at h;rw[Bool.and_eq_true,nats_ints] at h;exact h.2
 have hax:ag≤5∧xf≤1000000:=by have h:=hM;unfold mayH at h;rw[Bool.and_eq_true,decide_eq_true_eq] at h;omega
 have hf:=mayS_facts hm
 have hll:l.length≤400:=by rw[hl,ints_len];omega
 have hml:m.length=l.length:=by rw[hl,ints_len]
 have hof:=fun (i:Nat) (hi:i<m.length) W (hW:Ri W A l)=>offset_any ag xf A c m hM hcap i hi W (by rw[←hl];exact hW)
 rw[←hl] at hM hr
 have hsp:=fun W (hW:Ri W A l)=>span_any ag xf A c l hll W hW
 rw[hM,hl,hnm] at hsp
 rw[←hl] at hsp
 have hck:=fun W (hW:Ri W A l)=>whead_check ag xf A c l hll W hW
 rw[hM] at hck
 obtain ⟨S,hS⟩:∃S,S=(lastS m).1*(lastS m).2:=⟨_,rfl⟩
 have hS4:(S:Int)≤4294967295:=by have:=hf.2.2.2.1;rw[hS];omega
 have hhN:headN ag xf m=[ag,S,xf,l.length]:=by unfold headN;rw[←hS,hml]
 rw[←hS] at hsp
 rw[hml] at hof ⊢
 have HHN:=Lib.hid hhN
 have HX:=Lib.hid (And.intro hf (And.intro hl hml))
 have HSP:=Lib.hid hsp
 have HCK:=Lib.hid hck
 have HOF:=Lib.hid hof
 have hl8:(l.length:Int)≤8:=by omega
 have hax1:(ag:Int)≤5:=by omega
 have hax2:(xf:Int)≤1000000:=by omega
 have hcl:l.length≤c:=by omega
 clear hsp hck hof hM hm hf hhN hll hnm hl hax hS hcap hml
 obtain ⟨V,hV⟩:∃V,V=w.alloc (.cells #[.int .i64 ag, .int .i64 xf, .slice A l.length c] 24):=⟨_,rfl⟩
 have gV:Gr w V:=by rw[hV];exact Gr.alloc (Gr.refl w) _
 have hz:w.heap.size<V.heap.size:=by rw[hV];simp
 have c0:V.cell? ⟨w.heap.size,0,none⟩=some (.int .i64 ag):=by rw[hV];go_simp
 have c1:V.cell? ⟨w.heap.size,1,none⟩=some (.int .i64 xf):=by rw[hV];go_simp
 have c2:V.cell? ⟨w.heap.size,2,none⟩=some (.slice A l.length c):=by rw[hV];go_simp
 have HV:=Lib.hid hV
 have HG:=Lib.hid gV
 have HR:=Lib.hid (hr.gr gV)
 clear hV gV hr
 go_enter Tryz.func31,Tryz.ntmps31
 go_upto_region 1 with (fail)
 rw[←HV.out]
 clear HV
 go_upto_region 5 with (go_at_call 67;refine (HCK.out _ HR.out).mono ?_;rintro e w1 ⟨rfl,g1⟩;have d0:=(Below.cell g1 (p:=⟨w.heap.size,0,none⟩) hz).trans c0;have d1:=(Below.cell g1 (p:=⟨w.heap.size,1,none⟩) hz).trans c1;have d2:=(Below.cell g1 (p:=⟨w.heap.size,2,none⟩) hz).trans c2;have hzV:=Nat.lt_of_lt_of_le hz g1.size;have HG1:=Lib.hid (HG.out.trans g1);have HR1:=Lib.hid (HR.out.gr g1);clear c0 c1 c2 hz g1 HG HR;have c0:=d0;have c1:=d1;have c2:=d2;clear d0 d1 d2)
 refine wp_region_held_drew (S:=Gr w1) (by kernel_rfl) (Gr.drew (Gr.refl w1)) (fun _=>?_)
 have hS0:Gr w1 w1.drew:=Gr.drew (Gr.refl w1)
 obtain ⟨W0,hW0⟩:∃W0,W0=w1.drew:=⟨_,rfl⟩
 rw[←hW0] at hS0 ⊢
 clear hW0
 refine wpAnyH_take (i:=0) (v:=?hv1) rfl (by kernel_rfl) (by kernel_rfl) (by kernel_rfl) (fun _ _ _ h=>h) (Or.inl ⟨by rfl,fun W hS=>?hh2⟩) hS0 ?hr3
 case hh2=>go_simp;rfl
 simp only[Pu,List.getElem_toArray,List.getElem_cons_succ,List.getElem_cons_zero]
 refine wpAnyH_take (i:=1) (v:=?hv4) rfl (by kernel_rfl) (by kernel_rfl) (by kernel_rfl) (fun _ _ _ h=>h) (Or.inl ⟨by rfl,fun W hS=>?hh5⟩) hS0 ?hr6
 case hh5=>have s0:=(Below.cell hS (p:=⟨w.heap.size,0,none⟩) hzV).trans c0;go_simp;rfl
 simp only[Pu,List.getElem_toArray,List.getElem_cons_succ,List.getElem_cons_zero]
 refine wpAnyH_take (i:=2) (v:=?hv7) rfl (by kernel_rfl) (by kernel_rfl) (by kernel_rfl) (fun _ _ _ h=>h) (Or.inl ⟨by rfl,fun W hS=>?hh8⟩) hS0 ?hr9
 case hh8=>have s0:=(Below.cell hS (p:=⟨w.heap.size,0,none⟩) hzV).trans c0;have s1:=(Below.cell hS (p:=⟨w.heap.size,1,none⟩) hzV).trans c1;have s2:=(Below.cell hS (p:=⟨w.heap.size,2,none⟩) hzV).trans c2;go_simp;rfl
 simp only[Pu,List.getElem_toArray,List.getElem_cons_succ,List.getElem_cons_zero]
 refine wpAnyH_take (i:=4) (v:=?hv10) rfl (by kernel_rfl) (by kernel_rfl) (by kernel_rfl) (fun _ _ _ h=>h) (Or.inl ⟨by rfl,fun W hS=>?hh11⟩) hS0 ?hr12
 case hh11=>go_simp;rfl
 simp only[Pu,List.getElem_toArray,List.getElem_cons_succ,List.getElem_cons_zero]
 refine wpAnyH_take (i:=5) (v:=?hv13) rfl (by kernel_rfl) (by kernel_rfl) (by kernel_rfl) (fun _ _ _ h=>h) (Or.inl ⟨by rfl,fun W hS=>?hh14⟩) hS0 ?hr15
 case hh14=>have s1:=(Below.cell hS (p:=⟨w.heap.size,1,none⟩) hzV).trans c1;go_simp;rfl
 simp only[Pu,List.getElem_toArray,List.getElem_cons_succ,List.getElem_cons_zero]
 refine wpAnyH_take (i:=6) (v:=?hv16) rfl (by kernel_rfl) (by kernel_rfl) (by kernel_rfl) (fun _ _ _ h=>h) (Or.inl ⟨by rfl,fun W hS=>?hh17⟩) hS0 ?hr18
 case hh17=>go_simp;rfl
 simp only[Pu,List.getElem_toArray,List.getElem_cons_succ,List.getElem_cons_zero]
 refine wpAnyH_take (i:=7) (v:=?hv19) rfl (by kernel_rfl) (by kernel_rfl) (by kernel_rfl) (fun _ _ _ h=>h) (Or.inl ⟨by rfl,fun W hS=>?hh20⟩) hS0 ?hr21
 case hh20=>have s2:=(Below.cell hS (p:=⟨w.heap.size,2,none⟩) hzV).trans c2;go_simp;rfl
 simp only[Pu,List.getElem_toArray,List.getElem_cons_succ,List.getElem_cons_zero]
 refine wpAnyH_take (i:=8) (v:=?hv22) rfl (by kernel_rfl) (by kernel_rfl) (by kernel_rfl) (fun _ _ _ h=>h) (Or.inl ⟨by rfl,fun W hS=>?hh23⟩) hS0 ?hr24
 case hh23=>go_simp;rfl
 simp only[Pu,List.getElem_toArray,List.getElem_cons_succ,List.getElem_cons_zero]
 refine wpAnyH_take (i:=11) (v:=?hv25) rfl (by kernel_rfl) (by kernel_rfl) (by kernel_rfl) (fun _ _ _ h=>h) (Or.inl ⟨by rfl,fun W hS=>?hh26⟩) hS0 ?hr27
 case hh26=>go_simp;rfl
 simp only[Pu,List.getElem_toArray,List.getElem_cons_succ,List.getElem_cons_zero]
 refine wpAnyH_ready (rs:=[3]) (by kernel_rfl) (by simp) ?_
 refine AllReadyH.cons (i:=3) rfl (fun K hK=>?hx49) AllReadyH.nil
 rw[if_pos (by rfl)]
 simp only[List.getElem_toArray,List.getElem_cons_succ,List.getElem_cons_zero]
 go_simp
 refine (HSP.out _ (HR1.out.gr hS0)).mono ?_;rintro x w2 ⟨rfl,g2⟩
 have hS2:Gr w1 w2:=hS0.trans g2
 clear g2 hS0
 go_wp2_with fail
 refine hK.out _ _ ?hs50 (fun _=>?ht51)
 case hs50=>exact hS2
 clear hK K
 try (simp only[Pu,List.getElem_toArray,List.getElem_cons_succ,List.getElem_cons_zero])
 refine wpAnyH_ready (rs:=[9]) (by kernel_rfl) (by simp) ?_
 refine AllReadyH.cons (i:=9) rfl (fun K hK=>?hx52) AllReadyH.nil
 rw[if_pos (by rfl)]
 simp only[List.getElem_toArray,List.getElem_cons_succ,List.getElem_cons_zero]
 go_simp
 refine hK.out _ _ ?hs53 (fun _=>?ht54)
 case hs53=>exact Gr.alloc hS2 _
 clear hK K
 try (simp only[Pu,List.getElem_toArray,List.getElem_cons_succ,List.getElem_cons_zero])
 refine wpAnyH_ready (rs:=[10]) (by kernel_rfl) (by simp) ?_
 refine AllReadyH.cons (i:=10) rfl (fun K hK=>?hx55) AllReadyH.nil
 rw[if_pos (by rfl)]
 simp only[List.getElem_toArray,List.getElem_cons_succ,List.getElem_cons_zero]
 go_simp
 refine hK.out _ _ ?hs56 (fun _=>?ht57)
 case hs56=>exact Gr.alloc hS2 _
 clear hK K
 try (simp only[Pu,List.getElem_toArray,List.getElem_cons_succ,List.getElem_cons_zero])
 refine wpAnyH_done (by kernel_rfl) ?_ _
 obtain ⟨w3,hw3⟩:∃w3,w3=w2.alloc (.cells #[.int .i64 ag, .int .i64 S, .int .i64 xf, .int .i64 l.length] 3):=⟨_,rfl⟩
 have hS3:Gr w1 w3:=by rw[hw3];exact Gr.alloc hS2 _
 have hb4:w2.heap.size<w3.heap.size:=by rw[hw3];simp
 obtain ⟨NL,hNL⟩:∃NL,NL=headN ag xf m:=⟨_,rfl⟩
 have hNL4:NL=[ag,S,xf,l.length]:=hNL.trans HHN.out
 have hkey:∀L:List Nat,L=[ag,S,xf,l.length]→∀k (h:k<L.length),w3.cell? ⟨w2.heap.size,k,none⟩=some (.int .i64 (L[k]:Nat))∧(L[k]:Int)≤4294967295:=by
  intro L hL
  subst hL
  intro k hk
  match k,hk with
  | 0,_=>exact ⟨by rw[hw3];go_simp,by simp only[List.getElem_cons_zero];omega⟩
  | 1,_=>exact ⟨by rw[hw3];go_simp,by simp only[List.getElem_cons_succ,List.getElem_cons_zero];omega⟩
  | 2,_=>exact ⟨by rw[hw3];go_simp,by simp only[List.getElem_cons_succ,List.getElem_cons_zero];omega⟩
  | 3,_=>exact ⟨by rw[hw3];go_simp,by simp only[List.getElem_cons_succ,List.getElem_cons_zero];omega⟩
  | k+4,h=>simp only[List.length_cons,List.length_nil] at h;omega
 have hnum:=hkey NL hNL4
 have hNLl:NL.length=4:=by rw[hNL4];rfl
 clear hkey
 rw[←hw3]
 have HNUM:=Lib.hid (And.intro hnum hNLl)
 have HN0:=Lib.hid hNL
 have HS3:=Lib.hid hS3
 have c0':=(Below.cell hS3 (p:=⟨w.heap.size,0,none⟩) hzV).trans c0
 have c1':=(Below.cell hS3 (p:=⟨w.heap.size,1,none⟩) hzV).trans c1
 have c2':=(Below.cell hS3 (p:=⟨w.heap.size,2,none⟩) hzV).trans c2
 have hz3:=Nat.lt_of_lt_of_le hzV hS3.size
 have HR3:=Lib.hid (HR1.out.gr hS3)
 have HG3:=Lib.hid (HG1.out.trans hS3)
 clear c0 c1 c2 hzV HR1 HSP HCK hnum hNLl hNL4 hNL hS2 hS3 hw3 HG1
 have c0:=c0'
 have c1:=c1'
 have c2:=c2'
 clear c0' c1' c2'
 go_wp2
 go_loopw [28,5] (fun i v wr=>∃k:Nat,k≤4∧i= .int .i64 k∧Gr w3 wr∧wr.ownsRow w3.heap.size 5 1 v (4*k) (bys (fourS (NL.take k)))) (fun i _ _=>4-(intOf i).toNat)
 case atStart=>exact ⟨0,Nat.zero_le _,rfl,Gr.refl _,World.ownsRow_nil _ _ _ _⟩
 case round=>
  obtain ⟨k,hk,rfl,hgr,hown⟩:=hrel
  by_cases hlt:k<4
  ·
   have hki:(k:Int)<4:=by omega
   have hkl:k<NL.length:=by rw[HNUM.out.2];exact hlt
   have cs:=(Below.cell hgr (p:=⟨w2.heap.size,k,none⟩) hb4).trans (HNUM.out.1 k hkl).1
   have HFT:=Lib.hid (fourS_take hkl)
   have hX:=(HNUM.out.1 k hkl).2
   generalize NL[k]=X at *
   have HN:=Lib.hid (number_any X hX w3.heap.size (4*k) _ (fourS (NL.take k)) (by omega) wr hown hgr.size)
   have HO:=Lib.hid (And.intro hgr hown)
   clear hgr hown hkl hX
   go_wp2_with (go_at_call 69;refine HN.out.mono ?_;rintro e w4 ⟨v',rfl,o4,k4,f4⟩;have H4:Hid (Gr w3 w4):=Lib.hid (((Kp.of_gr (fun _=>False) HO.out.1).trans k4 (fun b hb h=>by have:=HO.out.2.lt b h;omega)).gr (fun _ _ h=>h));have O4:=Lib.hid o4;clear o4 k4 f4)
   go_roundw
   case rel=>exact ⟨k+1,by omega,by go_num,H4.out,by rw[HFT.out];exact O4.out⟩
   case measure=>simp[intOf];omega
  ·
   have hk4:k=4:=by omega
   subst hk4
   have hpre:fourS (NL.take 4)=fourS NL:=by rw[List.take_of_length_le (by rw[HNUM.out.2];exact Nat.le_refl _)]
   rw[hpre] at hown
   have hpl:(fourS NL).length=16:=by rw[fourS_len,HNUM.out.2]
   have HHD:Hid (hdrS ag xf m=fourS NL++archsB m l.length):=Lib.hid (by rw[HN0.out,hdrS,HX.out.2.2])
   obtain ⟨pre,hpr⟩:∃pre,pre=fourS NL:=⟨_,rfl⟩
   rw[←hpr] at hown hpl HHD
   have HPL:=Lib.hid hpl
   have HO:=Lib.hid (And.intro hgr hown)
   have c0':=(Below.cell hgr (p:=⟨w.heap.size,0,none⟩) hz3).trans c0
   have c1':=(Below.cell hgr (p:=⟨w.heap.size,1,none⟩) hz3).trans c1
   have c2':=(Below.cell hgr (p:=⟨w.heap.size,2,none⟩) hz3).trans c2
   clear hpr hpre hpl hgr hown HNUM HN0
   go_wp2
   go_loopw [39,5] (fun i v wr=>∃k:Nat,k≤l.length∧i= .int .i64 k∧Gr w3 wr∧wr.ownsRow w3.heap.size 5 1 v (16+12*k) (bys (pre++archsB m k))) (fun i _ _=>l.length-(intOf i).toNat)
   case atStart=>exact ⟨0,Nat.zero_le _,rfl,HO.out.1,by rw[archsB,List.append_nil];exact HO.out.2⟩
   case round=>
    obtain ⟨k,hk,rfl,hgr,hown⟩:=hrel
    by_cases hlt:k<l.length
    ·
     have hlt':(k:Int)<(l.length:Int):=by omega
     have hkm:k<m.length:=by rw[HX.out.2.2];exact hlt
     obtain ⟨b,hAb,hb,hc⟩:=(HR3.out.gr hgr) (by omega)
     subst hAb
     obtain ⟨d0,d1⟩:=hc k hlt
     have hlk:l[k]=((m[k].1:Int),(m[k].2:Int)):=by
      have hl:=HX.out.2.1
      subst hl
      exact ints_at m k hkm
     rw[hlk] at d0 d1
     simp only at d0 d1
     have hx:=HX.out.1.2.2.2.2 k hkm
     have hAN:archN m k=[offS m k,m[k].1,m[k].2]:=by
      unfold archN
      rw[List.getD_eq_getElem?_getD,List.getElem?_eq_getElem hkm]
      rfl
     have hON:=HOF.out k hlt
     have hOb:offS m k≤1048576:=Nat.le_trans (offS_le (by omega)) HX.out.1.2.2.1
     generalize m[k].1=x1 at *
     generalize m[k].2=x2 at *
     obtain ⟨O,hO⟩:∃O,O=offS m k:=⟨_,rfl⟩
     rw[←hO] at hAN hON hOb
     have HAN:=Lib.hid hAN
     have HON:=Lib.hid hON
     have hx1:(x1:Int)≤16777216:=by omega
     have hx2:(x2:Int)≤16777216:=by omega
     have hOi:(O:Int)≤1048576:=by omega
     have HH:=Lib.hid (And.intro hgr hown)
     clear hc hlk hx hAN hON hOb hO hgr hown hkm
     go_upto_region 13 with (fail)
     obtain ⟨wB,hwB⟩:∃wB,wB=wr.alloc (.cells #[.int .i64 x1, .int .i64 x2] 69):=⟨_,rfl⟩
     have gB:Gr wr wB:=by rw[hwB];exact Gr.alloc (Gr.refl wr) _
     have hz9:wr.heap.size<wB.heap.size:=by rw[hwB];simp
     have e0:wB.cell? ⟨wr.heap.size,0,none⟩=some (.int .i64 x1):=by rw[hwB];go_simp
     have e1:wB.cell? ⟨wr.heap.size,1,none⟩=some (.int .i64 x2):=by rw[hwB];go_simp
     rw[←hwB]
     have G3B:=Lib.hid (HH.out.1.trans gB)
     have k0:=(Below.cell G3B.out (p:=⟨w.heap.size,0,none⟩) hz3).trans c0
     have k1:=(Below.cell G3B.out (p:=⟨w.heap.size,1,none⟩) hz3).trans c1
     have k2:=(Below.cell G3B.out (p:=⟨w.heap.size,2,none⟩) hz3).trans c2
     have hzR:=Nat.lt_of_lt_of_le hz3 G3B.out.size
     have OB:=Lib.hid (own_grU HH.out.2 gB)
     have SB:=Lib.hid (Nat.le_trans HH.out.1.size gB.size)
     generalize wr.heap.size=B9 at hz9 e0 e1 ⊢
     clear hwB gB d0 d1 hb c0 c1 c2 hz3 HH
     refine wp_region_held_drew (S:=Gr wB) (by kernel_rfl) (Gr.drew (Gr.refl wB)) (fun _=>?_)
     have hS9:Gr wB wB.drew:=Gr.drew (Gr.refl wB)
     obtain ⟨W0,hW0⟩:∃W0,W0=wB.drew:=⟨_,rfl⟩
     rw[←hW0] at hS9 ⊢
     clear hW0
     refine wpAnyH_take (i:=0) (v:=?hv28) rfl (by kernel_rfl) (by kernel_rfl) (by kernel_rfl) (fun _ _ _ h=>h) (Or.inl ⟨by rfl,fun W hS=>?hh29⟩) hS9 ?hr30
     case hh29=>have s0:=(Below.cell hS (p:=⟨w.heap.size,0,none⟩) hzR).trans k0;have s1:=(Below.cell hS (p:=⟨w.heap.size,1,none⟩) hzR).trans k1;have s2:=(Below.cell hS (p:=⟨w.heap.size,2,none⟩) hzR).trans k2;go_simp;rfl
     simp only[Pu,List.getElem_toArray,List.getElem_cons_succ,List.getElem_cons_zero]
     refine wpAnyH_take (i:=1) (v:=?hv31) rfl (by kernel_rfl) (by kernel_rfl) (by kernel_rfl) (fun _ _ _ h=>h) (Or.inl ⟨by rfl,fun W hS=>?hh32⟩) hS9 ?hr33
     case hh32=>go_simp;rfl
     simp only[Pu,List.getElem_toArray,List.getElem_cons_succ,List.getElem_cons_zero]
     refine wpAnyH_take (i:=3) (v:=?hv34) rfl (by kernel_rfl) (by kernel_rfl) (by kernel_rfl) (fun _ _ _ h=>h) (Or.inl ⟨by rfl,fun W hS=>?hh35⟩) hS9 ?hr36
     case hh35=>go_simp;rfl
     simp only[Pu,List.getElem_toArray,List.getElem_cons_succ,List.getElem_cons_zero]
     refine wpAnyH_take (i:=4) (v:=?hv37) rfl (by kernel_rfl) (by kernel_rfl) (by kernel_rfl) (fun _ _ _ h=>h) (Or.inl ⟨by rfl,fun W hS=>?hh38⟩) hS9 ?hr39
     case hh38=>have s0:=(Below.cell hS (p:=⟨B9,0,none⟩) hz9).trans e0;go_simp;rfl
     simp only[Pu,List.getElem_toArray,List.getElem_cons_succ,List.getElem_cons_zero]
     refine wpAnyH_take (i:=5) (v:=?hv40) rfl (by kernel_rfl) (by kernel_rfl) (by kernel_rfl) (fun _ _ _ h=>h) (Or.inl ⟨by rfl,fun W hS=>?hh41⟩) hS9 ?hr42
     case hh41=>go_simp;rfl
     simp only[Pu,List.getElem_toArray,List.getElem_cons_succ,List.getElem_cons_zero]
     refine wpAnyH_take (i:=6) (v:=?hv43) rfl (by kernel_rfl) (by kernel_rfl) (by kernel_rfl) (fun _ _ _ h=>h) (Or.inl ⟨by rfl,fun W hS=>?hh44⟩) hS9 ?hr45
     case hh44=>have s1:=(Below.cell hS (p:=⟨B9,1,none⟩) hz9).trans e1;go_simp;rfl
     simp only[Pu,List.getElem_toArray,List.getElem_cons_succ,List.getElem_cons_zero]
     refine wpAnyH_take (i:=9) (v:=?hv46) rfl (by kernel_rfl) (by kernel_rfl) (by kernel_rfl) (fun _ _ _ h=>h) (Or.inl ⟨by rfl,fun W hS=>?hh47⟩) hS9 ?hr48
     case hh47=>go_simp;rfl
     simp only[Pu,List.getElem_toArray,List.getElem_cons_succ,List.getElem_cons_zero]
     refine wpAnyH_ready (rs:=[2]) (by kernel_rfl) (by simp) ?_
     refine AllReadyH.cons (i:=2) rfl (fun K hK=>?hx58) AllReadyH.nil
     rw[if_pos (by rfl)]
     simp only[List.getElem_toArray,List.getElem_cons_succ,List.getElem_cons_zero]
     go_simp
     refine (HON.out _ (HR3.out.gr (G3B.out.trans hS9))).mono ?_;rintro x w5 ⟨rfl,g5⟩
     have hS5:Gr wB w5:=hS9.trans g5
     clear g5 hS9
     go_wp2_with fail
     refine hK.out _ _ ?hs59 (fun _=>?ht60)
     case hs59=>exact hS5
     clear hK K
     try (simp only[Pu,List.getElem_toArray,List.getElem_cons_succ,List.getElem_cons_zero])
     refine wpAnyH_ready (rs:=[7]) (by kernel_rfl) (by simp) ?_
     refine AllReadyH.cons (i:=7) rfl (fun K hK=>?hx61) AllReadyH.nil
     rw[if_pos (by rfl)]
     simp only[List.getElem_toArray,List.getElem_cons_succ,List.getElem_cons_zero]
     go_simp
     refine hK.out _ _ ?hs62 (fun _=>?ht63)
     case hs62=>exact Gr.alloc hS5 _
     clear hK K
     try (simp only[Pu,List.getElem_toArray,List.getElem_cons_succ,List.getElem_cons_zero])
     refine wpAnyH_ready (rs:=[8]) (by kernel_rfl) (by simp) ?_
     refine AllReadyH.cons (i:=8) rfl (fun K hK=>?hx64) AllReadyH.nil
     rw[if_pos (by rfl)]
     simp only[List.getElem_toArray,List.getElem_cons_succ,List.getElem_cons_zero]
     go_simp
     refine hK.out _ _ ?hs65 (fun _=>?ht66)
     case hs65=>exact Gr.alloc hS5 _
     clear hK K
     try (simp only[Pu,List.getElem_toArray,List.getElem_cons_succ,List.getElem_cons_zero])
     refine wpAnyH_done (by kernel_rfl) ?_ _
     obtain ⟨w6,hw6⟩:∃w6,w6=w5.alloc (.cells #[.int .i64 O, .int .i64 x1, .int .i64 x2] 3):=⟨_,rfl⟩
     have hS6:Gr wB w6:=by rw[hw6];exact Gr.alloc hS5 _
     have hb5:w5.heap.size<w6.heap.size:=by rw[hw6];simp
     obtain ⟨AL,hAL⟩:∃AL,AL=archN m k:=⟨_,rfl⟩
     have hAL4:AL=[O,x1,x2]:=hAL.trans HAN.out
     have hkey:∀L:List Nat,L=[O,x1,x2]→∀k (h:k<L.length),w6.cell? ⟨w5.heap.size,k,none⟩=some (.int .i64 (L[k]:Nat))∧(L[k]:Int)≤4294967295:=by
      intro L hL
      subst hL
      intro k hk
      match k,hk with
      | 0,_=>exact ⟨by rw[hw6];go_simp,by simp only[List.getElem_cons_zero];omega⟩
      | 1,_=>exact ⟨by rw[hw6];go_simp,by simp only[List.getElem_cons_succ,List.getElem_cons_zero];omega⟩
      | 2,_=>exact ⟨by rw[hw6];go_simp,by simp only[List.getElem_cons_succ,List.getElem_cons_zero];omega⟩
      | k+3,h=>simp only[List.length_cons,List.length_nil] at h;omega
     have hnum:=hkey AL hAL4
     have hALl:AL.length=3:=by rw[hAL4];rfl
     have hin:archsB m (k+1)=archsB m k++fourS AL:=by rw[archsB,hAL]
     have hpk:(pre++archsB m k).length=16+12*k:=by rw[List.length_append,HPL.out,archsB_len]
     rw[←hw6]
     have HNUM:=Lib.hid (And.intro hnum hALl)
     have HIN:=Lib.hid hin
     obtain ⟨PK,hPK⟩:∃PK,PK=pre++archsB m k:=⟨_,rfl⟩
     have HPK:=Lib.hid hPK
     have O6:=own_grU OB.out hS6
     rw[←hPK] at O6
     have OL:=Lib.hid OB.out.lt
     have Z6:=Lib.hid (And.intro hS6.size (And.intro hb5 hS5.size))
     have HO6:=Lib.hid O6
     have HS6:=Lib.hid (G3B.out.trans hS6)
     clear hkey hnum hALl hAL4 hAL hin hpk hPK hS5 hS6 O6 OB hw6 HON HAN k0 k1 k2 e0 e1 hb5 G3B hz9 hzR
     go_wp2
     go_loopw [53,5] (fun i v' wq=>∃j:Nat,j≤3∧i= .int .i64 j∧wq.ownsRow w3.heap.size 5 1 v' (16+12*k+4*j) (bys (PK++fourS (AL.take j)))∧Kp (fun b=>u5.ownBlock=some b) w6 wq∧∀b,v'.ownBlock=some b→u5.ownBlock=some b∨w6.heap.size≤b) (fun i _ _=>3-(intOf i).toNat)
     case atStart=>exact ⟨0,Nat.zero_le _,rfl,by simpa [fourS] using HO6.out,Kp.refl _ _,fun _ h=> .inl h⟩
     case round=>
      obtain ⟨j,hj,rfl,hown,hK,hf⟩:=hrel
      by_cases hlt3:j<3
      ·
       have hji:(j:Int)<3:=by omega
       have hjl:j<AL.length:=by rw[HNUM.out.2];exact hlt3
       have cs:wr.cell? ⟨w5.heap.size,j,none⟩=some (.int .i64 (AL[j]:Nat)):=(hK.cell (a:=⟨w5.heap.size,j,none⟩) Z6.out.2.1 (fun h=>by have h1:=(OL.out w5.heap.size h).2;have:=Z6.out.2.2;omega)).trans (HNUM.out.1 j hjl).1
       have HFT:=Lib.hid (fourS_take hjl)
       have hX:=(HNUM.out.1 j hjl).2
       generalize AL[j]=X at *
       have HN:=Lib.hid (number_any X hX w3.heap.size (16+12*k+4*j) _ (PK++fourS (AL.take j)) (by omega) wr hown (by have:=SB.out;have:=Z6.out.1;have:=hK.size;omega))
       have HO7:=Lib.hid (And.intro hK (And.intro hf hown.lt))
       clear hown hjl hX hK hf
       go_wp2_with (go_at_call 69;refine HN.out.mono ?_;rintro e w7 ⟨v7,rfl,o7,k7,f7⟩;have K7:=Lib.hid (HO7.out.1.trans k7 (fun b hb h=>by rcases HO7.out.2.1 b h with h'|h';exact h';omega));have F7:Hid (∀b,v7.ownBlock=some b→_∨w6.heap.size≤b):=Lib.hid (fun b h=>by rcases f7 b h with h'|h';exact HO7.out.2.1 b h';exact .inr (Nat.le_trans HO7.out.1.size h'));have O7:=Lib.hid o7;clear o7 k7 f7)
       go_roundw
       case rel=>exact ⟨j+1,by omega,by go_num,by rw[HFT.out,←List.append_assoc];exact O7.out,K7.out,F7.out⟩
       case measure=>simp[intOf];omega
      ·
       have hj3:j=3:=by omega
       subst hj3
       have HE:Hid (Gr w3 wr∧wr.ownsRow w3.heap.size 5 1 _ (16+12*(k+1)) (bys (pre++archsB m (k+1)))):=Lib.hid ⟨(((Kp.of_gr (fun _=>False) HS6.out).trans hK (fun b hb h=>by have:=OL.out b h;omega)).gr (fun _ _ h=>h)),by
        rw[HIN.out,←List.append_assoc,←HPK.out]
        rw[List.take_of_length_le (by rw[HNUM.out.2];exact Nat.le_refl _)] at hown
        exact hown⟩
       clear hown hK hf
       go_wp2
       refine ⟨?_,?measure⟩
       apply Exists.intro
       apply Exists.intro
       repeat apply Exists.intro
       refine ⟨?rel,rfl⟩
       case rel=>exact ⟨k+1,by omega,by go_num,HE.out.1,HE.out.2⟩
       case measure=>simp[intOf];omega
    ·
     have hkk:k=l.length:=by omega
     subst hkk
     obtain ⟨A',c',hv⟩:=own_form hown
     subst hv
     have hrb:=Rb.own hown
     have hcp:=own_capA hown
     have HFr:Hid (∀ad,A'=some ad→w.heap.size≤ad.block):=Lib.hid fun ad e=>by
      have:=hown.lt ad.block (by rw[e];rfl)
      have:=HG3.out.size
      omega
     have hln:(pre++archsB m l.length).length=16+12*l.length:=by rw[List.length_append,HPL.out,archsB_len]
     have HRB:=Lib.hid (And.intro hrb (And.intro hcp hln))
     have Hgr:=Lib.hid hgr
     clear hrb hcp hln hgr hown
     go_wp2
     go_ret2
     rw[HHD.out]
     exact ⟨A',c',by rw[HRB.out.2.2];rfl,by rw[HRB.out.2.2];exact HRB.out.2.1,HRB.out.1,HG3.out.trans Hgr.out,HFr.out⟩
def RetPt (ok:Bool) (t n:Int) (w:World) (e:Ending) (w':World):Prop:=e= .returned (.tuple #[.agg #[.int .i64 t, .int .i64 n], .bool ok])∧Gr w w'
theorem ofB_le {l:List UInt8} {k:Nat} (h:l.length≤k):ofB l<256^k:=Nat.lt_of_lt_of_le (ofB_lt l) (Nat.pow_le_pow_right (by decide) h)
theorem or_byte (x b:Nat) (hx:x<72057594037927936) (hb:b<256):bits .or .u64 ((x:Int)*256) (b:Int)=((x*256+b:Nat):Int):=by
 have h:=bits_or_u64_nat (x*256) b (by omega) (by omega)
 have e:(((x*256:Nat):Nat):Int)=(x:Int)*256:=by simp
 rw[e] at h
 rw[h]
 congr 1
 have:=Nat.shiftLeft_add_eq_or_of_lt (i:=8) (show b<2^8 by omega) x
 rw[Nat.shiftLeft_eq] at this
 exact this.symm
theorem take_four {l:List UInt8} {k:Nat} (hk:k<l.length) (h:k<4):ofB ((l.take (k+1)).take 4)=ofB ((l.take k).take 4)*256+l[k].toNat∧(l.take (k+1)).drop 4=[]∧(l.take k).drop 4=[]:=by
 refine ⟨?_,?_,?_⟩
 ·
  rw[List.take_take,List.take_take,Nat.min_eq_right (by omega),Nat.min_eq_right (by omega),List.take_succ_eq_append_getElem hk,ofB_snoc]
 ·
  rw[List.drop_eq_nil_iff,List.length_take];omega
 ·
  rw[List.drop_eq_nil_iff,List.length_take];omega
theorem drop_four {l:List UInt8} {k:Nat} (hk:k<l.length) (h:4≤k):ofB ((l.take (k+1)).drop 4)=ofB ((l.take k).drop 4)*256+l[k].toNat∧(l.take (k+1)).take 4=(l.take k).take 4:=by
 refine ⟨?_,?_⟩
 ·
  rw[List.take_succ_eq_append_getElem hk,List.drop_append_of_le_length (by rw[List.length_take];omega),ofB_snoc]
 ·
  rw[List.take_take,List.take_take,Nat.min_eq_left h,Nat.min_eq_left (by omega)]
theorem ofB_take_lt (l:List UInt8) (k:Nat):ofB ((l.take k).take 4)<4294967296:=by
 have:=ofB_le (l:=(l.take k).take 4) (k:=4) (by rw[List.length_take];omega)
 have e:(256:Nat)^4=4294967296:=by decide
 omega
theorem ofB_drop_lt {l:List UInt8} {k:Nat} (hk:k<12):ofB ((l.take k).drop 4)<72057594037927936:=by
 have:=ofB_le (l:=(l.take k).drop 4) (k:=7) (by rw[List.length_drop,List.length_take];omega)
 have e:(256:Nat)^7=72057594037927936:=by decide
 omega
theorem u64_in {x:Int} (h:0≤x) (h':x≤18446744073709551615):IntKind.u64.wrap x=x:=by rw[IntKind.wrap_u64];omega
theorem decode_any (A:Option Addr) (c:Nat) (l:List UInt8) (hl:l.length=12) (w:World) (h:Rb w A l):Calls Tryz.prog 65 #[.slice A l.length c] w (RetPt true (decT l) (decN l) w):=by
 obtain ⟨ad,hA,hb,hc⟩:=h.2 (by omega)
 subst hA
 rw[hl]
 have HC:=Lib.hid hc
 have HL:=Lib.hid hl
 have HG0:Hid (Gr w ((w.alloc (.cells #[.int .i64 0, .int .i64 0] 54)).alloc (.cells #[.int .u64 0, .int .u64 0] 156))):=Lib.hid (Gr.alloc (Gr.alloc (Gr.refl w) _) _)
 clear h hc hl
 go_enter Tryz.func65,Tryz.ntmps65
 go_wp2
 go_loopw [15] (fun i wr=>∃k:Nat,k≤12∧i= .int .i64 k∧Gr w wr∧w.heap.size+1<wr.heap.size∧wr.cell? ⟨w.heap.size+1,0,none⟩=some (.int .u64 (ofB ((l.take k).take 4):Nat))∧wr.cell? ⟨w.heap.size+1,1,none⟩=some (.int .u64 (ofB ((l.take k).drop 4):Nat))∧
  wr.cell? ⟨w.heap.size,0,none⟩=some (.int .i64 0)∧wr.cell? ⟨w.heap.size,1,none⟩=some (.int .i64 0)∧(∀o,o<2→wr.frozen? ⟨w.heap.size,o,none⟩=false∧wr.frozen? ⟨w.heap.size+1,o,none⟩=false)) (fun i _=>12-(intOf i).toNat)
 case atStart=>
  refine ⟨0,Nat.zero_le _,rfl,HG0.out,by simp,?_,?_,?_,?_,fun o ho=>?_⟩
  ·
   rw[List.take_zero];go_simp;rfl
  ·
   rw[List.take_zero];go_simp;rfl
  ·
   go_simp
  ·
   go_simp
  ·
   match o,ho with
   | 0,_=>constructor<;>go_simp
   | 1,_=>constructor<;>go_simp
 case round=>
  obtain ⟨k,hk,rfl,hgr,hz,c0,c1,d0,d1,hf⟩:=hrel
  by_cases hlt:k<12
  ·
   have hki:(k:Int)<12:=by omega
   have hkl:k<l.length:=by rw[HL.out];exact hlt
   have cb:=(Below.cell hgr (p:=ad.add k) (by rw[add_blk];exact hb)).trans (HC.out k _ (bys_at l k hkl))
   obtain ⟨b,hbb⟩:∃b:UInt8,b=l[k]:=⟨_,rfl⟩
   rw[←hbb] at cb
   by_cases h4:k<4
   ·
    have h4i:¬(4:Int)≤(k:Int):=by omega
    obtain ⟨x,hx⟩:∃x,x=ofB ((l.take k).take 4):=⟨_,rfl⟩
    rw[←hx] at c0
    have hxl:x<72057594037927936:=by rw[hx];have:=ofB_take_lt l k;omega
    have hw1:IntKind.u64.wrap ((x:Int)*256)=(x:Int)*256:=u64_in (by omega) (by omega)
    have hw2:IntKind.u64.wrap (b.toNat:Int)=(b.toNat:Int):=u64_in (by omega) (by have:=b.toNat_lt;omega)
    have hor:=or_byte x b.toNat hxl b.toNat_lt
    obtain ⟨y,hy⟩:∃y:Nat,y=x*256+b.toNat:=⟨_,rfl⟩
    rw[←hy] at hor
    have g0:=(hf 0 (by decide)).2
    have HN:=Lib.hid (show y=ofB ((l.take (k+1)).take 4) from by rw[hy,hx,hbb];exact ((take_four hkl h4).1).symm)
    have HO:=Lib.hid (And.intro d0 (And.intro d1 c1))
    have HF:=Lib.hid hf
    have Hg:=Lib.hid hgr
    clear hx hy hbb hxl hgr hf d0 d1 c1
    go_wp2
    go_roundw
    case rel=>
     refine ⟨k+1,by omega,by go_num,Hg.out.setCell (by show w.heap.size≤w.heap.size+1;omega) _,by simpa using hz,?_,?_,?_,?_,fun o ho=>?_⟩
     ·
      rw[←HN.out];exact World.cell?_setCell_same' _ _ _ (by rw[c0];rfl)
     ·
      rw[(take_four hkl h4).2.1,←(take_four hkl h4).2.2];exact (World.cell?_setCell_other wr ⟨w.heap.size+1,0,none⟩ ⟨w.heap.size+1,1,none⟩ _ (by first|(simp;done)|(simp;omega))).trans HO.out.2.2
     ·
      exact (World.cell?_setCell_other wr ⟨w.heap.size+1,0,none⟩ ⟨w.heap.size,0,none⟩ _ (by first|(simp;done)|(simp;omega))).trans HO.out.1
     ·
      exact (World.cell?_setCell_other wr ⟨w.heap.size+1,0,none⟩ ⟨w.heap.size,1,none⟩ _ (by first|(simp;done)|(simp;omega))).trans HO.out.2.1
     ·
      rw[World.frozen?_setCell,World.frozen?_setCell];exact HF.out o ho
    case measure=>simp[intOf];omega
   ·
    have h4i:(4:Int)≤(k:Int):=by omega
    obtain ⟨x,hx⟩:∃x,x=ofB ((l.take k).drop 4):=⟨_,rfl⟩
    rw[←hx] at c1
    have hxl:x<72057594037927936:=by rw[hx];exact ofB_drop_lt hlt
    have hw1:IntKind.u64.wrap ((x:Int)*256)=(x:Int)*256:=u64_in (by omega) (by omega)
    have hw2:IntKind.u64.wrap (b.toNat:Int)=(b.toNat:Int):=u64_in (by omega) (by have:=b.toNat_lt;omega)
    have hor:=or_byte x b.toNat hxl b.toNat_lt
    obtain ⟨y,hy⟩:∃y:Nat,y=x*256+b.toNat:=⟨_,rfl⟩
    rw[←hy] at hor
    have g0:=(hf 1 (by decide)).2
    have HN:=Lib.hid (show y=ofB ((l.take (k+1)).drop 4) from by rw[hy,hx,hbb];exact ((drop_four hkl (by omega)).1).symm)
    have HO:=Lib.hid (And.intro d0 (And.intro d1 c0))
    have HF:=Lib.hid hf
    have Hg:=Lib.hid hgr
    clear hx hy hbb hxl hgr hf d0 d1 c0
    go_wp2
    go_roundw
    case rel=>
     refine ⟨k+1,by omega,by go_num,Hg.out.setCell (by show w.heap.size≤w.heap.size+1;omega) _,by simpa using hz,?_,?_,?_,?_,fun o ho=>?_⟩
     ·
      rw[(drop_four hkl (by omega)).2];exact (World.cell?_setCell_other wr ⟨w.heap.size+1,1,none⟩ ⟨w.heap.size+1,0,none⟩ _ (by first|(simp;done)|(simp;omega))).trans HO.out.2.2
     ·
      rw[←HN.out];exact World.cell?_setCell_same' _ _ _ (by rw[c1];rfl)
     ·
      exact (World.cell?_setCell_other wr ⟨w.heap.size+1,1,none⟩ ⟨w.heap.size,0,none⟩ _ (by first|(simp;done)|(simp;omega))).trans HO.out.1
     ·
      exact (World.cell?_setCell_other wr ⟨w.heap.size+1,1,none⟩ ⟨w.heap.size,1,none⟩ _ (by first|(simp;done)|(simp;omega))).trans HO.out.2.1
     ·
      rw[World.frozen?_setCell,World.frozen?_setCell];exact HF.out o ho
    case measure=>simp[intOf];omega
  ·
   have hkk:k=12:=by omega
   subst hkk
   have hki:¬((12:Nat):Int)<12:=by omega
   have HT:Hid (((ofB ((l.take 12).take 4):Nat):Int)=decT l∧ofB ((l.take 12).drop 4)=ofB (l.drop 4)):=Lib.hid (by
    have e12:l.take 12=l:=List.take_of_length_le (by rw[HL.out];exact Nat.le_refl _)
    rw[e12]
    exact ⟨rfl,rfl⟩)
   obtain ⟨x,hx⟩:∃x,x=ofB ((l.take 12).take 4):=⟨_,rfl⟩
   obtain ⟨y,hy⟩:∃y,y=ofB ((l.take 12).drop 4):=⟨_,rfl⟩
   rw[←hx] at c0
   rw[←hy] at c1
   have hxl:IntKind.i64.wrap (x:Nat)=(x:Nat):=IntWalk.i64_in _ (by have:=ofB_take_lt l 12;omega)
   have hyl:IntKind.i64.wrap (y:Nat)=decN l:=by
    have h1:y<18446744073709551616:=by
     have:=ofB_le (l:=(l.take 12).drop 4) (k:=8) (by rw[List.length_drop,List.length_take];omega)
     have e:(256:Nat)^8=18446744073709551616:=by decide
     rw[hy];omega
    unfold decN i64
    rw[←HT.out.2,←hy,IntKind.wrap_i64]
    split<;>omega
   have HX:=Lib.hid (show (x:Int)=decT l by rw[hx];exact HT.out.1)
   have f0:=(hf 0 (by decide)).1
   have f1:=(hf 1 (by decide)).1
   have Hg:=Lib.hid hgr
   obtain ⟨N,hN⟩:∃N,N=decN l:=⟨_,rfl⟩
   rw[←hN] at hyl
   have HN:=Lib.hid hN
   clear hx hy hf hgr hN hk hlt
   go_wp2
   refine bodyPost_ret (v:= .tuple #[.agg #[.int .i64 (x:Nat), .int .i64 N], .bool true]) (by simp[results,Tryz.results65,go_sem, *]) rfl ?_
   refine ⟨by rw[HX.out,HN.out],?_⟩
   repeat (first|exact Hg.out|refine Gr.setCell ?_ (by show w.heap.size≤w.heap.size;omega) _)
theorem or_byte_i (x b:Nat) (hx:x<4294967296) (hb:b<256):bits .or .i64 ((x:Int)*256) (b:Int)=((x*256+b:Nat):Int):=by
 have hy:x*256 ||| b<2^64:=Nat.or_lt_two_pow (by omega) (by omega)
 have h1:(BitVec.ofInt 64 ((x*256:Nat):Int)).toNat=x*256:=by
  rw[BitVec.ofInt_natCast,BitVec.toNat_ofNat];exact Nat.mod_eq_of_lt (by omega)
 have h2:(BitVec.ofInt 64 (b:Int)).toNat=b:=by
  rw[BitVec.ofInt_natCast,BitVec.toNat_ofNat];exact Nat.mod_eq_of_lt (by omega)
 have e:(((x*256:Nat):Nat):Int)=(x:Int)*256:=by simp
 have h3:x*256 ||| b=x*256+b:=by
  have:=Nat.shiftLeft_add_eq_or_of_lt (i:=8) (show b<2^8 by omega) x
  rw[Nat.shiftLeft_eq] at this
  exact this.symm
 rw[←e]
 show IntKind.i64.wrap ((BitVec.ofInt 64 ((x*256:Nat):Int) ||| BitVec.ofInt 64 (b:Int)).toNat:Int)=_
 rw[BitVec.toNat_or,h1,h2,h3,IntKind.wrap_i64]
 omega
def numAt (L:List UInt8) (j:Nat):Nat:=if 4*(j+1)≤L.length then ofB ((L.drop (4*j)).take 4) else 0
theorem numAt_lt (L:List UInt8) (j:Nat):numAt L j<4294967296:=by
 unfold numAt
 split
 ·
  have:=ofB_le (l:=(L.drop (4*j)).take 4) (k:=4) (by rw[List.length_take];omega)
  have e:(256:Nat)^4=4294967296:=by decide
  omega
 ·
  omega
def offJ (L:List UInt8) (j:Nat):Nat:=4*min j (L.length/4)
structure RdAt (w:World) (R b c:Nat) (L:List UInt8) (j:Nat):Prop where
 lt:R<w.heap.size
 c0:∃A,w.cell? ⟨R,0,none⟩=some (.slice A (L.length-offJ L j) (c-offJ L j))∧(offJ L j<L.length→A=some ⟨b,offJ L j,none⟩)
 c1:w.cell? ⟨R,1,none⟩=some (.bool (decide (L.length<4*j)))
 f0:w.frozen? ⟨R,0,none⟩=false
 f1:w.frozen? ⟨R,1,none⟩=false
theorem RdAt.kp {w w':World} {R b c:Nat} {L:List UInt8} {j:Nat} {S:Nat→Prop} (h:RdAt w R b c L j) (k:Kp S w w') (hn:¬S R):RdAt w' R b c L j:=
 ⟨Nat.lt_of_lt_of_le h.lt k.size,let ⟨A,h0,h1⟩:=h.c0;⟨A,(k.cell (a:=⟨R,0,none⟩) h.lt hn).trans h0,h1⟩,(k.cell (a:=⟨R,1,none⟩) h.lt hn).trans h.c1,(k.frozen (a:=⟨R,0,none⟩) h.lt hn).trans h.f0,(k.frozen (a:=⟨R,1,none⟩) h.lt hn).trans h.f1⟩
theorem RdAt.took {w:World} {R b c:Nat} {L:List UInt8} {j n d:Nat} {A:Option Addr} {v:Value} (hlt:R<w.heap.size) (c0:w.cell? ⟨R,0,none⟩=some v) (c1:w.cell? ⟨R,1,none⟩=some (.bool (decide (L.length<4*j)))) (f0:w.frozen? ⟨R,0,none⟩=false) (f1:w.frozen? ⟨R,1,none⟩=false)
  (h4:4*(j+1)≤L.length) (hn:n=L.length-offJ L (j+1)) (hd:d=c-offJ L (j+1)) (hA:offJ L (j+1)<L.length→A=some ⟨b,offJ L (j+1),none⟩):RdAt (w.setCell ⟨R,0,none⟩ (.slice A n d)) R b c L (j+1):=by
 refine ⟨by simpa using hlt,⟨A,?_,hA⟩,?_,by rw[World.frozen?_setCell];exact f0,by rw[World.frozen?_setCell];exact f1⟩
 ·
  rw[←hn,←hd]
  exact World.cell?_setCell_same' _ _ _ (by rw[c0];rfl)
 ·
  have e:decide (L.length<4*j)=decide (L.length<4*(j+1)):=by rw[decide_eq_false (by omega),decide_eq_false (by omega)]
  rw[←e]
  exact (World.cell?_setCell_other w ⟨R,0,none⟩ ⟨R,1,none⟩ _ (by first|(simp;done)|(simp;omega))).trans c1
theorem RdAt.miss {w:World} {R b c:Nat} {L:List UInt8} {j:Nat} (h:RdAt w R b c L j) (h4:L.length<4*(j+1)):RdAt (w.setCell ⟨R,1,none⟩ (.bool true)) R b c L (j+1):=by
 obtain ⟨A,c0,hA⟩:=h.c0
 have ho:offJ L (j+1)=offJ L j:=by unfold offJ;omega
 refine ⟨by simpa using h.lt,⟨A,?_,by rw[ho];exact hA⟩,?_,by rw[World.frozen?_setCell];exact h.f0,by rw[World.frozen?_setCell];exact h.f1⟩
 ·
  rw[ho]
  exact (World.cell?_setCell_other w ⟨R,1,none⟩ ⟨R,0,none⟩ _ (by first|(simp;done)|(simp;omega))).trans c0
 ·
  rw[decide_eq_true h4]
  exact World.cell?_setCell_same' _ _ _ (by rw[h.c1];rfl)
theorem rnum_any (R b c:Nat) (L:List UInt8) (j:Nat) (hj:j≤1000) (hL:(L.length:Int)≤1073741824) (hc:L.length≤c) (hcb:(c:Int)≤9223372036854775807) (w:World) (h:RdAt w R b c L j) (hr:4≤L.length→Rb w (some ⟨b,0,none⟩) L) (hne:b≠R) :
  Calls Tryz.prog 99 #[.pointer (some ⟨R,0,none⟩)] w fun e w'=>e= .returned (.int .i64 (numAt L j:Nat))∧RdAt w' R b c L (j+1)∧Kp (fun k=>k=R) w w':=by
 obtain ⟨A,c0,hA0⟩:=h.c0
 have c1:=h.c1
 have f0:=h.f0
 have f1:=h.f1
 have hlt:=h.lt
 have Hh:=Lib.hid h
 clear h
 by_cases h4:4*(j+1)≤L.length
 ·
  have ho:offJ L j=4*j:=by unfold offJ;omega
  have ho':offJ L (j+1)=4*j+4:=by unfold offJ;omega
  obtain ⟨o,hoo⟩:∃o,o=4*j:=⟨_,rfl⟩
  rw[ho,←hoo] at c0 hA0
  have hA1:=hA0 (by omega)
  subst hA1
  rw[←hoo] at ho'
  obtain ⟨n,hn⟩:∃n,n=L.length-o:=⟨_,rfl⟩
  obtain ⟨d,hd⟩:∃d,d=c-o:=⟨_,rfl⟩
  rw[←hn,←hd] at c0
  have hn4:¬(n:Int)<4:=by omega
  have hn4b:(4:Int)≤(n:Int):=by omega
  have hd4:(4:Int)≤(d:Int):=by omega
  have hnd:(n:Int)≤(d:Int):=by omega
  have hni:(n:Int)≤1073741824:=by omega
  have hdi:(d:Int)≤9223372036854775807:=by omega
  obtain ⟨ad,hA,hb,hcb2⟩:=(hr (by omega)).2 (by omega)
  injection hA with hA
  subst hA
  have hcell:∀k (hk:k<((L.drop o).take 4).length),w.cell? ⟨b,o+k,none⟩=some (.int .u8 ((((L.drop o).take 4)[k].toNat:Nat):Int)):=fun k hk=>by
   have hkl:o+k<L.length:=by rw[List.length_take,List.length_drop] at hk;omega
   have:=hcb2 (o+k) _ (bys_at L (o+k) hkl)
   rw[show (⟨b,0,none⟩:Addr).add (o+k)=⟨b,o+k,none⟩ by simp[Addr.add];omega] at this
   rw[this,List.getElem_take,List.getElem_drop]
  obtain ⟨q,hl4,hcell,hval⟩:∃q:List UInt8,q.length=4∧(∀k (hk:k<q.length),w.cell? ⟨b,o+k,none⟩=some (.int .u8 ((q[k].toNat:Nat):Int)))∧numAt L j=ofB q:=
   ⟨(L.drop o).take 4,by rw[List.length_take,List.length_drop];omega,hcell,by unfold numAt;rw[if_pos h4,hoo]⟩
  rw[hval]
  have HC:=Lib.hid hcell
  have HX:=Lib.hid (And.intro hoo (And.intro hn (And.intro hd (And.intro ho' h4))))
  have hoi:(o:Int)≤1073741824:=by omega
  clear hr hcb2 hcell hval hA0 ho ho' hoo hn hd h4 hc hcb hL
  go_enter Tryz.func99,Tryz.ntmps99
  go_wp2
  go_loopw [21,3] (fun i v wr=>∃k:Nat,k≤4∧i= .int .i64 k∧v= .int .i64 (ofB (q.take k):Nat)∧wr=w) (fun i _ _=>4-(intOf i).toNat)
  case atStart=>exact ⟨0,Nat.zero_le _,rfl,by rw[List.take_zero];rfl,rfl⟩
  case round=>
   obtain ⟨k,hk,rfl,rfl,hww⟩:=hrel
   subst hww
   by_cases hk4:k<4
   ·
    have hki:(k:Int)<4:=by omega
    have hkl:k<q.length:=by rw[hl4];exact hk4
    have cs:=HC.out k hkl
    have HT:Hid (ofB (q.take (k+1))=ofB (q.take k)*256+q[k].toNat):=Lib.hid (by rw[List.take_succ_eq_append_getElem hkl,ofB_snoc])
    have hxb:ofB (q.take k)<16777216:=by
     have:=ofB_le (l:=q.take k) (k:=3) (by rw[List.length_take];omega)
     have e:(256:Nat)^3=16777216:=by decide
     omega
    obtain ⟨x,hx⟩:∃x,x=ofB (q.take k):=⟨_,rfl⟩
    rw[←hx] at HT hxb ⊢
    obtain ⟨y,hy⟩:∃y:UInt8,y=q[k]:=⟨_,rfl⟩
    rw[←hy] at cs HT
    have hyl:=y.toNat_lt
    have hw1:IntKind.i64.wrap ((x:Int)*256)=(x:Int)*256:=IntWalk.i64_in _ (by omega)
    have hw2:IntKind.i64.wrap (y.toNat:Int)=(y.toNat:Int):=IntWalk.i64_in _ (by omega)
    have hor:=or_byte_i x y.toNat (by omega) (by omega)
    obtain ⟨z,hz⟩:∃z:Nat,z=x*256+y.toNat:=⟨_,rfl⟩
    rw[←hz] at hor HT
    clear hx hy hz hyl hxb hkl
    go_wp2
    go_roundw
    case rel=>exact ⟨k+1,by omega,by go_num,by rw[HT.out],by first|trivial|rfl⟩
    case measure=>simp[intOf];omega
   ·
    have hk:k=4:=by omega
    subst hk
    have HE:Hid (ofB (q.take 4)=ofB q):=Lib.hid (by rw[List.take_of_length_le (by omega)])
    go_wp2
    all_goals go_ret
    case _=>exact ⟨by rw[←HE.out];rfl,RdAt.took hlt c0 c1 f0 f1 HX.out.2.2.2.2 (by have:=HX.out;omega) (by have:=HX.out;omega) (fun h=>by have:=HX.out;omega),(Kp.refl (fun k=>k=R) _).set (p:=⟨R,0,none⟩) (.inl (show R=R from rfl)) _⟩
    case _=>exact ⟨by rw[←HE.out];rfl,RdAt.took hlt c0 c1 f0 f1 HX.out.2.2.2.2 (by have:=HX.out;omega) (by have:=HX.out;omega) (fun h=>by rw[HX.out.2.2.2.1]),(Kp.refl (fun k=>k=R) _).set (p:=⟨R,0,none⟩) (.inl (show R=R from rfl)) _⟩
 ·
  have h4':L.length<4*(j+1):=by omega
  have hval:numAt L j=0:=by unfold numAt;rw[if_neg h4]
  rw[hval]
  obtain ⟨n,hn⟩:∃n,n=L.length-offJ L j:=⟨_,rfl⟩
  obtain ⟨d,hd⟩:∃d,d=c-offJ L j:=⟨_,rfl⟩
  rw[←hn,←hd] at c0
  have hn4:(n:Int)<4:=by have:offJ L j=4*min j (L.length/4):=rfl;omega
  have HM:=Lib.hid (Hh.out.miss h4')
  clear hn hd hA0 hval h4 h4' hL hc hcb hr hj
  go_enter Tryz.func99,Tryz.ntmps99
  go_wp2
  go_ret
  exact ⟨rfl,HM.out,(Kp.refl (fun k=>k=R) _).set (p:=⟨R,1,none⟩) (.inl (show R=R from rfl)) _⟩
def arcAt (L:List UInt8) (i:Nat):Nat×Nat:=(numAt L (4+3*i+1),numAt L (4+3*i+2))
def arcsAt (L:List UInt8):Nat→List (Nat×Nat)
 | 0=>[]
 | k+1=>arcsAt L k++[arcAt L k]
theorem arcsAt_len (L:List UInt8):∀k,(arcsAt L k).length=k
 | 0=>rfl
 | k+1=>by rw[arcsAt,List.length_append,arcsAt_len L k];rfl
def decH (L:List UInt8):Option (Nat×Nat×List (Nat×Nat)):=
 bif Nat.ble 1 (numAt L 3)&&Nat.ble (numAt L 3) 8 then
  bif Nat.ble (16+12*numAt L 3) L.length&&mayH (numAt L 0) (numAt L 2) (ints (arcsAt L (numAt L 3)))&&(hdrS (numAt L 0) (numAt L 2) (arcsAt L (numAt L 3))).isPrefixOf L then
   some (numAt L 0,numAt L 2,arcsAt L (numAt L 3)) else none else none
theorem decH_n {L:List UInt8} (h:numAt L 3<1∨8<numAt L 3):decH L=none:=by
 unfold decH
 rcases h with h|h
 ·
  rw[show Nat.ble 1 (numAt L 3)=false by rw[Bool.eq_false_iff,ne_eq,Nat.ble_eq];omega];rfl
 ·
  rw[show Nat.ble (numAt L 3) 8=false by rw[Bool.eq_false_iff,ne_eq,Nat.ble_eq];omega,Bool.and_false];rfl
theorem decH_in {L:List UInt8} (h:1≤numAt L 3) (h':numAt L 3≤8):decH L=(bif Nat.ble (16+12*numAt L 3) L.length&&mayH (numAt L 0) (numAt L 2) (ints (arcsAt L (numAt L 3)))&&(hdrS (numAt L 0) (numAt L 2) (arcsAt L (numAt L 3))).isPrefixOf L then
   some (numAt L 0,numAt L 2,arcsAt L (numAt L 3)) else none):=by
 unfold decH
 rw[show Nat.ble 1 (numAt L 3)=true by rw[Nat.ble_eq];exact h,show Nat.ble (numAt L 3) 8=true by rw[Nat.ble_eq];exact h']
 rfl
theorem decH_short {L:List UInt8} {k:Nat} (h:L.length<4*(4+3*k)) (hk:k≤numAt L 3):decH L=none:=by
 rcases Nat.lt_or_ge (numAt L 3) 1 with h1|h1
 ·
  exact decH_n (.inl h1)
 rcases Nat.lt_or_ge 8 (numAt L 3) with h8|h8
 ·
  exact decH_n (.inr h8)
 rw[decH_in h1 h8,show Nat.ble (16+12*numAt L 3) L.length=false by rw[Bool.eq_false_iff,ne_eq,Nat.ble_eq];omega]
 rfl
theorem decH_no {L:List UInt8} (h:mayH (numAt L 0) (numAt L 2) (ints (arcsAt L (numAt L 3)))=false∨(hdrS (numAt L 0) (numAt L 2) (arcsAt L (numAt L 3))).isPrefixOf L=false):decH L=none:=by
 rcases Nat.lt_or_ge (numAt L 3) 1 with h1|h1
 ·
  exact decH_n (.inl h1)
 rcases Nat.lt_or_ge 8 (numAt L 3) with h8|h8
 ·
  exact decH_n (.inr h8)
 rw[decH_in h1 h8]
 rcases h with h|h
 ·
  rw[h,Bool.and_false,Bool.false_and];rfl
 ·
  rw[h,Bool.and_false];rfl
theorem decH_yes {L:List UInt8} (hl:16+12*numAt L 3≤L.length) (h:mayH (numAt L 0) (numAt L 2) (ints (arcsAt L (numAt L 3)))=true) (hp:(hdrS (numAt L 0) (numAt L 2) (arcsAt L (numAt L 3))).isPrefixOf L=true):decH L=some (numAt L 0,numAt L 2,arcsAt L (numAt L 3)):=by
 obtain ⟨m,hm,h2, -⟩:=mayH_nat h
 have hf:=mayS_facts h2
 have hmm:arcsAt L (numAt L 3)=m:=by rw[←nats_ints (arcsAt L (numAt L 3)),hm,nats_ints]
 have hlm:m.length=numAt L 3:=by rw[←hmm,arcsAt_len]
 rw[decH_in (by omega) (by omega),h,hp,show Nat.ble (16+12*numAt L 3) L.length=true by rw[Nat.ble_eq];exact hl]
 rfl
theorem mayH_nil (ag xf:Int):mayH ag xf (ints [])=false:=by
 unfold mayH
 rw[show mayS (nats (ints []))=false from rfl,Bool.and_false]
def acells (l:List (Nat×Nat)):List Value:=l.flatMap fun a=>[.int .i64 (a.1:Nat), .int .i64 (a.2:Nat)]
theorem acells_cons (a:Nat×Nat) (l:List (Nat×Nat)):acells (a::l)= .int .i64 (a.1:Nat) :: .int .i64 (a.2:Nat)::acells l:=rfl
theorem acells_append (l m:List (Nat×Nat)):acells (l++m)=acells l++acells m:=by simp[acells]
theorem acells_length (l:List (Nat×Nat)):(acells l).length=l.length*2:=by
 induction l with
 | nil=>rfl
 | cons v l ih=>rw[acells_cons];simp only[List.length_cons,ih];omega
theorem acells_one (l:List (Nat×Nat)):∀u∈acells l,u.oneCell'=true:=by
 intro u hu
 simp only[acells,List.mem_flatMap] at hu
 obtain ⟨v,_,hv⟩:=hu
 simp at hv
 rcases hv with rfl|rfl<;>rfl
theorem acells_at (l:List (Nat×Nat)):∀(k:Nat) (h:k<l.length),(acells l)[k*2]?=some (.int .i64 (l[k].1:Nat))∧(acells l)[k*2+1]?=some (.int .i64 (l[k].2:Nat)):=by
 induction l with
 | nil=>intro k h;simp at h
 | cons v l ih=>
  intro k h
  match k with
  | 0=>exact ⟨rfl,rfl⟩
  | k+1=>
   obtain ⟨i1,i2⟩:=ih k (by simpa using h)
   rw[acells_cons]
   refine ⟨?_,?_⟩
   ·
    rw[show (k+1)*2=k*2+1+1 by omega];simpa using i1
   ·
    rw[show (k+1)*2+1=k*2+1+1+1 by omega];simpa using i2
theorem Ri.own {w:World} {base:Nat} {e:TypeId} {n c:Nat} {A:Option Addr} {l:List (Nat×Nat)} (h:w.ownsRow base e 2 (.slice A n c) n (acells l)):Ri w A (ints l):=fun h0=>by
 rw[ints_len] at h0
 have hn:n=l.length:=by have:=h.1;rw[acells_length] at this;omega
 obtain ⟨g,e, -,hg,hc⟩:=own_blockU h (by omega)
 refine ⟨⟨g,0,none⟩,e,hg,fun k hk=>?_⟩
 rw[ints_len] at hk
 rw[add_own]
 rw[ints_at l k hk]
 exact ⟨hc _ _ (acells_at l k hk).1,hc _ _ (acells_at l k hk).2⟩
theorem info_arch:(Tryz.prog.info? 69).map (fun i=>(i.zero,i.size,i.bytes))=some (some (.agg #[.int .i64 0, .int .i64 0]),2,16):=by kernel_rfl
structure DeS (w0 w:World) (b c:Nat) (L:List UInt8) (j:Nat) (x0 x1:Int) (v:Value):Prop where
 gr:Gr w0 w
 rd:RdAt w (w0.heap.size+1) b c L j
 lt:w0.heap.size+2<w.heap.size
 h0:w.cell? ⟨w0.heap.size+2,0,none⟩=some (.int .i64 x0)
 h1:w.cell? ⟨w0.heap.size+2,1,none⟩=some (.int .i64 x1)
 h2:w.cell? ⟨w0.heap.size+2,2,none⟩=some v
 r0:w.cell? ⟨w0.heap.size,0,none⟩=some (.int .i64 0)
 r1:w.cell? ⟨w0.heap.size,1,none⟩=some (.int .i64 0)
 r2:w.cell? ⟨w0.heap.size,2,none⟩=some (.slice none 0 0)
 hf:∀o,o<3→w.frozen? ⟨w0.heap.size+2,o,none⟩=false∧w.frozen? ⟨w0.heap.size,o,none⟩=false
theorem DeS.kp {w0 w w':World} {b c:Nat} {L:List UInt8} {j j':Nat} {x0 x1:Int} {v:Value} {S:Nat→Prop} (h:DeS w0 w b c L j x0 x1 v) (k:Kp S w w') (rd:RdAt w' (w0.heap.size+1) b c L j') (h0:∀i,i<w0.heap.size→¬S i) (hs:¬S w0.heap.size) (hs2:¬S (w0.heap.size+2)):DeS w0 w' b c L j' x0 x1 v:=
 have l0:w0.heap.size<w.heap.size:=by have:=h.lt;omega
 ⟨((Kp.of_gr (fun _=>False) h.gr).trans k (fun i hi hS=>h0 i hi hS)).gr (fun _ _ h=>h),rd,Nat.lt_of_lt_of_le h.lt k.size,(k.cell (a:=⟨w0.heap.size+2,0,none⟩) h.lt hs2).trans h.h0,(k.cell (a:=⟨w0.heap.size+2,1,none⟩) h.lt hs2).trans h.h1,(k.cell (a:=⟨w0.heap.size+2,2,none⟩) h.lt hs2).trans h.h2,
  (k.cell (a:=⟨w0.heap.size,0,none⟩) l0 hs).trans h.r0,(k.cell (a:=⟨w0.heap.size,1,none⟩) l0 hs).trans h.r1,(k.cell (a:=⟨w0.heap.size,2,none⟩) l0 hs).trans h.r2,
  fun o ho=>⟨(k.frozen (a:=⟨w0.heap.size+2,o,none⟩) h.lt hs2).trans (h.hf o ho).1,(k.frozen (a:=⟨w0.heap.size,o,none⟩) l0 hs).trans (h.hf o ho).2⟩⟩
theorem DeS.gro {w0 w w':World} {b c:Nat} {L:List UInt8} {j:Nat} {x0 x1:Int} {v:Value} (h:DeS w0 w b c L j x0 x1 v) (g:Gr w w'):DeS w0 w' b c L j x0 x1 v:=
 h.kp (Kp.of_gr (fun _=>False) g) (h.rd.kp (Kp.of_gr (fun _=>False) g) (fun h=>h)) (fun _ _ h=>h) (fun h=>h) (fun h=>h)
theorem DeS.put {w0 w:World} {b c:Nat} {L:List UInt8} {j i:Nat} {x0 x1 y0 y1:Int} {v y2:Value} (h:DeS w0 w b c L j x0 x1 v) (u:Value)
  (hy:(i=0∧u= .int .i64 y0∧y1=x1∧y2=v)∨(i=1∧u= .int .i64 y1∧y0=x0∧y2=v)∨(i=2∧u=y2∧y0=x0∧y1=x1)):DeS w0 (w.setCell ⟨w0.heap.size+2,i,none⟩ u) b c L j y0 y1 y2:=by
 have k:Kp (fun q=>q=w0.heap.size+2) w (w.setCell ⟨w0.heap.size+2,i,none⟩ u):=(Kp.refl _ _).set (.inl (show w0.heap.size+2=w0.heap.size+2 from rfl)) _
 have l0:w0.heap.size<w.heap.size:=by have:=h.lt;omega
 have rd:=h.rd.kp k (show ¬w0.heap.size+1=w0.heap.size+2 by omega)
 have ho:∀o,o≠i→(w.setCell ⟨w0.heap.size+2,i,none⟩ u).cell? ⟨w0.heap.size+2,o,none⟩=w.cell? ⟨w0.heap.size+2,o,none⟩:=fun o ho=>World.cell?_setCell_other w ⟨w0.heap.size+2,i,none⟩ ⟨w0.heap.size+2,o,none⟩ _ (by first|(simp[ho];done)|(simp;omega))
 have hs:∀{t:Value},w.cell? ⟨w0.heap.size+2,i,none⟩=some t→(w.setCell ⟨w0.heap.size+2,i,none⟩ u).cell? ⟨w0.heap.size+2,i,none⟩=some u:=fun e=>World.cell?_setCell_same' _ _ _ (by rw[e];rfl)
 have hr:=fun o=>k.cell (a:=⟨w0.heap.size,o,none⟩) l0 (show ¬w0.heap.size=w0.heap.size+2 by omega)
 refine ⟨((Kp.of_gr (fun _=>False) h.gr).trans k (fun q hq hS=>by omega)).gr (fun _ _ h=>h),rd,by simpa using h.lt,?_,?_,?_,(hr 0).trans h.r0,(hr 1).trans h.r1,(hr 2).trans h.r2,fun o ho'=>⟨by rw[World.frozen?_setCell];exact (h.hf o ho').1,by rw[World.frozen?_setCell];exact (h.hf o ho').2⟩⟩
 ·
  rcases hy with ⟨rfl,rfl, -, -⟩|⟨rfl, -,rfl, -⟩|⟨rfl, -,rfl, -⟩
  ·
   exact hs h.h0
  ·
   exact (ho 0 (by decide)).trans h.h0
  ·
   exact (ho 0 (by decide)).trans h.h0
 ·
  rcases hy with ⟨rfl, -,rfl, -⟩|⟨rfl,rfl, -, -⟩|⟨rfl, -, -,rfl⟩
  ·
   exact (ho 1 (by decide)).trans h.h1
  ·
   exact hs h.h1
  ·
   exact (ho 1 (by decide)).trans h.h1
 ·
  rcases hy with ⟨rfl, -, -,rfl⟩|⟨rfl, -, -,rfl⟩|⟨rfl,rfl, -, -⟩
  ·
   exact (ho 2 (by decide)).trans h.h2
  ·
   exact (ho 2 (by decide)).trans h.h2
  ·
   exact hs h.h2
theorem DeS.num {w0 w:World} {b c:Nat} {L:List UInt8} {j:Nat} {x0 x1:Int} {v:Value} (h:DeS w0 w b c L j x0 x1 v) (hj:j≤1000) (hL:(L.length:Int)≤1073741824) (hc:L.length≤c) (hcb:(c:Int)≤9223372036854775807) (hr:4≤L.length→Rb w0 (some ⟨b,0,none⟩) L) (hb:b<w0.heap.size) :
  Calls Tryz.prog 99 #[.pointer (some ⟨w0.heap.size+1,0,none⟩)] w fun e w'=>e= .returned (.int .i64 (numAt L j:Nat))∧DeS w0 w' b c L (j+1) x0 x1 v∧Kp (fun k=>k=w0.heap.size+1) w w':=
 (rnum_any (w0.heap.size+1) b c L j hj hL hc hcb w h.rd (fun h4=>(hr h4).gr h.gr) (by omega)).mono fun e w' ⟨he,hd,hk⟩=>⟨he,h.kp hk hd (fun i hi h=>by omega) (show ¬w0.heap.size=w0.heap.size+1 by omega) (show ¬w0.heap.size+2=w0.heap.size+1 by omega),hk⟩
end Go.Proofs.YtoncapkmaeghfaaGreat
