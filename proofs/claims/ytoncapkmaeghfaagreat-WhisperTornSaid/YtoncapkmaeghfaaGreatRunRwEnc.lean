import Derived.Test.YtoncapkmaeghfaaGreatRunWiMay
import Derived.Test.YtoncapkmaeghfaaGreatRunVfFs
import Derived.Test.YtoncapkmaeghfaaGreatRunFxBase
import Derived.Test.YtoncapkmaeghfaaGreatRunWiHdr
set_option linter.all false
set_option maxRecDepth 1000000
set_option maxHeartbeats 12800000
namespace Go.Proofs.YtoncapkmaeghfaaGreat
open Go.RowKit
theorem info_in:(Tryz.prog.info? 3).map (fun i=>(i.zero,i.size,i.bytes))=some (some (.int .i64 0),1,8):=by kernel_rfl
def nic (l:List Nat):List Value:=l.map fun z=> .int .i64 (z:Nat)
theorem nic_app (l r:List Nat):nic (l++r)=nic l++nic r:=by simp[nic]
theorem nic_one (l:List Nat):∀u∈nic l,u.oneCell'=true:=by
 intro u hu
 simp only[nic,List.mem_map] at hu
 obtain ⟨z,_,rfl⟩:=hu
 rfl
def HdS (B:Nat) (ag xf:Nat) (A:Option Addr) (n c:Nat) (W:World):Prop:=B<W.heap.size∧W.cell? ⟨B,0,none⟩=some (.int .i64 (ag:Nat))∧W.cell? ⟨B,1,none⟩=some (.int .i64 (xf:Nat))∧W.cell? ⟨B,2,none⟩=some (.slice A n c)
theorem HdS.gr {B ag xf n c:Nat} {A:Option Addr} {W W':World} (h:HdS B ag xf A n c W) (g:Gr W W'):HdS B ag xf A n c W':=
 ⟨Nat.lt_of_lt_of_le h.1 g.size,(Below.cell g (p:=⟨B,0,none⟩) h.1).trans h.2.1,(Below.cell g (p:=⟨B,1,none⟩) h.1).trans h.2.2.1,(Below.cell g (p:=⟨B,2,none⟩) h.1).trans h.2.2.2⟩
theorem arN_mem {m:Arcs}:∀{k x:Nat},x∈arN m k→∃j,j<k∧x∈archN m j
 | 0,x,h=>by cases h
 | k+1,x,h=>by
  rw[arN,List.mem_append] at h
  rcases h with h|h
  ·
   obtain ⟨j,hj,hx⟩:=arN_mem h;exact ⟨j,by omega,hx⟩
  ·
   exact ⟨k,by omega,h⟩
theorem numsH_le {ag xf:Nat} {m:Arcs} (hM:mayH ag xf (ints m)=true):∀x∈numsH ag xf m,x≤4294967295:=by
 have hF:=MayF.ofH hM
 have hM2:=hM
 unfold mayH at hM2
 rw[Bool.and_eq_true,decide_eq_true_eq] at hM2
 intro x hx
 unfold numsH at hx
 rw[List.mem_append] at hx
 rcases hx with hx|hx
 ·
  simp only[headN,List.mem_cons,List.not_mem_nil,or_false] at hx
  have:=hF.last
  have:=hF.l8
  rcases hx with rfl|rfl|rfl|rfl<;>omega
 ·
  obtain ⟨j,hj,hx⟩:=arN_mem hx
  have:=hF.s1 j hj
  have:=hF.c1 j hj
  have:=offS_le (m:=m) (i:=j) (by omega)
  have:=hF.sz
  simp only[archN,List.mem_cons,List.not_mem_nil,or_false] at hx
  rcases hx with rfl|rfl|rfl
  ·
   omega
  ·
   change stpS m j≤_;omega
  ·
   change cntS m j≤_;omega
theorem rencode_any (ag xf:Nat) (A:Option Addr) (c:Nat) (m:Arcs) (hM:mayH ag xf (ints m)=true) (w:World) (hr:Ri w A (ints m)):Calls Tryz.prog 34 #[.agg #[.int .i64 ag, .int .i64 xf, .slice A m.length c]] w (RetHd (hdrS ag xf m) w):=by
 obtain ⟨i0,hi0,hy0,hy1,hy2⟩:=info_parts info_in
 obtain ⟨j0,hj0,hk0,hk1,hk2⟩:=info_parts info_u8R
 rw[hdrS_four]
 have HN:=Lib.hid (numsH_le hM)
 have HNL:=Lib.hid (numsH_len ag xf m)
 have HM:=Lib.hid hM
 obtain ⟨V,hV⟩:∃V,V=w.alloc (.cells #[.int .i64 ag, .int .i64 xf, .slice A m.length c] 24):=⟨_,rfl⟩
 have gV:Gr w V:=by rw[hV];exact Gr.alloc (Gr.refl w) _
 have hz:w.heap.size<V.heap.size:=by rw[hV];simp
 have c0:V.cell? ⟨w.heap.size,0,none⟩=some (.int .i64 ag):=by rw[hV];go_simp
 have c1:V.cell? ⟨w.heap.size,1,none⟩=some (.int .i64 xf):=by rw[hV];go_simp
 have c2:V.cell? ⟨w.heap.size,2,none⟩=some (.slice A m.length c):=by rw[hV];go_simp
 have HV:=Lib.hid hV
 have HG:=Lib.hid gV
 have HR:=Lib.hid (hr.gr gV)
 have hck:=fun W (hW:Ri W A (ints m))=>rmay_any ag xf A c (ints m) W hW
 rw[ints_len,hM] at hck
 have HCK:=Lib.hid hck
 have hF:=MayF.ofH hM
 have HF:=Lib.hid hF
 clear hV gV hck
 have h8:(m.length:Int)≤8:=by have:=hF.l8;omega
 have h8n:m.length≤8:=hF.l8
 clear hF hr hM
 go_enter Tryz.func34,Tryz.ntmps34
 go_upto_region 1 with (fail)
 rw[←HV.out]
 clear HV
 go_upto_region 3 with (go_at_call 6;refine (HCK.out _ HR.out).mono ?_;rintro e w1 ⟨rfl,g1⟩;have d0:=(Below.cell g1 (p:=⟨w.heap.size,0,none⟩) hz).trans c0;have d1:=(Below.cell g1 (p:=⟨w.heap.size,1,none⟩) hz).trans c1;have d2:=(Below.cell g1 (p:=⟨w.heap.size,2,none⟩) hz).trans c2;have hz1:=Nat.lt_of_lt_of_le hz g1.size;have HG1:=Lib.hid (HG.out.trans g1);have HR1:=Lib.hid (HR.out.gr g1);clear c0 c1 c2 hz g1)
 have hS1:HdS w.heap.size ag xf A m.length c w1:=⟨hz1,d0,d1,d2⟩
 have HSW:=Lib.hid hS1
 refine wp_region_Z 10 (HdS w.heap.size ag xf A m.length c) (by kernel_rfl) ?_
 have hS0:HdS w.heap.size ag xf A m.length c w1.drew:=hS1
 have g0:Gr w1 w1.drew:=Gr.drew (Gr.refl _)
 obtain ⟨W0,hW0⟩:∃W0,W0=w1.drew:=⟨_,rfl⟩
 rw[←hW0] at hS0 g0 ⊢
 clear hW0
 refine zu 0 rfl hS0 (fun W hS=>by go_simp;rfl) ?_
 refine zu 1 rfl hS0 (fun W hS=>by have s0:=hS.2.1;go_simp;rfl) ?_
 refine zu 2 rfl hS0 (fun W hS=>by have s0:=hS.2.1;have s1:=hS.2.2.1;have s2:=hS.2.2.2;go_simp;rfl) ?_
 refine zu 4 rfl hS0 (fun W hS=>by go_simp;rfl) ?_
 refine zu 5 rfl hS0 (fun W hS=>by have s1:=hS.2.2.1;go_simp;rfl) ?_
 refine zu 6 rfl hS0 (fun W hS=>by go_simp;rfl) ?_
 refine zu 7 rfl hS0 (fun W hS=>by have s2:=hS.2.2.2;go_simp;rfl) ?_
 refine zu 8 rfl hS0 (fun W hS=>by go_simp;rfl) ?_
 refine wpAnyZ_ready (rs:=[3]) (by kernel_rfl) (by simp) ?_
 refine AllReadyZ.cons (i:=3) rfl (by kernel_rfl) ?zx9 AllReadyZ.nil
 intro K hK
 simp only[List.getElem_toArray,List.getElem_cons_succ,List.getElem_cons_zero]
 go_simp
 refine (rhspan_any ag xf A c m HM.out W0 (HR1.out.gr g0)).mono ?_;rintro x W1 ⟨rfl,g1⟩
 have hS2:=hS0.gr g1
 have HG3:=Lib.hid (And.intro (HG1.out.trans (g0.trans g1)) (g0.trans g1))
 clear g1
 go_wp2_with fail
 refine hK.out _ _ (fun hnz=>?zs9) (fun _=>?zr9)
 case zs9=>exact hS2
 clear hK K
 try (simp only[Pu,List.getElem_toArray,List.getElem_cons_succ,List.getElem_cons_zero])
 refine wpAnyZ_ready (rs:=[9]) (by kernel_rfl) (by simp) ?_
 refine AllReadyZ.cons (i:=9) rfl (by kernel_rfl) ?zx10 AllReadyZ.nil
 intro K hK
 simp only[List.getElem_toArray,List.getElem_cons_succ,List.getElem_cons_zero]
 go_simp
 obtain ⟨W2,hW2⟩:∃W2,W2=W1.alloc (.cells #[.int .i64 (ag:Nat), .int .i64 (spanS m:Nat), .int .i64 (xf:Nat), .int .i64 (m.length:Nat)] 3):=⟨_,rfl⟩
 have own2:W2.ownsRow w1.heap.size 3 1 (.slice (some ⟨W1.heap.size,0,none⟩) 4 4) 4 (nic (headN ag xf m)):=by rw[hW2];exact World.ownsRow_lit (e:=3) (size:=1) W1 (nic (headN ag xf m)).toArray 4 HG3.out.2.size (by decide) rfl
 have g2:Gr W1 W2:=by rw[hW2];exact Gr.alloc (Gr.refl _) _
 have hS3:=hS2.gr g2
 rw[←hW2]
 clear hW2
 refine hK.out _ _ (fun hnz=>?zs10) (fun _=>?zr10)
 case zs10=>exact hS3
 clear hK K
 try (simp only[Pu,List.getElem_toArray,List.getElem_cons_succ,List.getElem_cons_zero])
 refine wpAnyZ_ready (rs:=[10]) (by kernel_rfl) (by simp) ?_
 refine AllReadyZ.cons (i:=10) rfl (by kernel_rfl) ?zx11 AllReadyZ.nil
 intro K hK
 simp only[List.getElem_toArray,List.getElem_cons_succ,List.getElem_cons_zero]
 go_simp
 refine hK.out _ _ (fun hnz=>?zs11) (fun _=>?zr11)
 case zs11=>exact absurd rfl hnz
 clear hK K
 try (simp only[Pu,List.getElem_toArray,List.getElem_cons_succ,List.getElem_cons_zero])
 refine wpAnyZ_done (by kernel_rfl) ?_ _
 have HG4:=Lib.hid (And.intro (HG3.out.1.trans g2) (HG3.out.2.trans g2))
 have HOW:=Lib.hid own2
 clear own2 g0 g2 hS0 hS1 hS2 hS3 d0 d1 d2
 go_wp2
 go_loopw [4,5] (fun v i wr=>∃k:Nat,k≤m.length∧i= .int .i64 k∧Gr w1 wr∧wr.ownsRow w1.heap.size 3 1 v (4+3*k) (nic (headN ag xf m++arN m k))) (fun _ i _=>m.length-(intOf i).toNat)
 case atStart=>exact ⟨0,Nat.zero_le _,rfl,HG4.out.2,by rw[arN,List.append_nil];exact HOW.out⟩
 case round=>
  obtain ⟨k,hk,rfl,hgr,hown⟩:=hrel
  have hSr:=HSW.out.gr hgr
  have e2:=hSr.2.2.2
  by_cases hlt:k<m.length
  ·
   have hlti:(k:Int)<(m.length:Int):=by omega
   obtain ⟨ad,rfl,hb,hc⟩:=HR1.out (by rw[ints_len];omega)
   obtain ⟨pw0,pw1⟩:=hc k (by rw[ints_len];exact hlt)
   rw[ints_at m k hlt] at pw0 pw1
   simp only at pw0 pw1
   have hbk0:∀z,(ad.add z).block<w1.heap.size:=fun z=>by rw[adB];exact hb
   have hbk:∀z,(ad.add z).block<wr.heap.size:=fun z=>Nat.lt_of_lt_of_le (hbk0 z) hgr.size
   have p0:=(Below.cell hgr (p:=ad.add (k*2)) (hbk0 _)).trans pw0
   have p1:=(Below.cell hgr (p:=⟨(ad.add (k*2)).block,(ad.add (k*2)).off+1,none⟩) (hbk0 _)).trans pw1
   have HAR:Hid (archN m k=[offS m k,m[k].1,m[k].2]):=Lib.hid (by unfold archN;rw[List.getD_eq_getElem?_getD,List.getElem?_eq_getElem hlt];rfl)
   obtain ⟨x1,hx1⟩:∃x,x=m[k].1:=⟨_,rfl⟩
   obtain ⟨x2,hx2⟩:∃x,x=m[k].2:=⟨_,rfl⟩
   rw[←hx1] at p0 pw0 HAR
   rw[←hx2] at p1 pw1 HAR
   obtain ⟨A4,c4,hv4⟩:=own_form hown
   subst hv4
   have HOWN:=Lib.hid hown
   have HGR:=Lib.hid hgr
   have HK:=Lib.hid hlt
   have hSr1:=HSW
   clear hc hb hx1 hx2 hown hgr
   go_upto_region 7 with (fail)
   refine wp_region_Z 18 (fun W=>HdS w.heap.size ag xf (some ad) m.length c W∧W.cell? (ad.add (k*2))=some (.int .i64 (x1:Nat))∧W.cell? ⟨(ad.add (k*2)).block,(ad.add (k*2)).off+1,none⟩=some (.int .i64 (x2:Nat))) (by kernel_rfl) ?_
   have hS0:(fun W=>HdS w.heap.size ag xf (some ad) m.length c W∧W.cell? (ad.add (k*2))=some (.int .i64 (x1:Nat))∧W.cell? ⟨(ad.add (k*2)).block,(ad.add (k*2)).off+1,none⟩=some (.int .i64 (x2:Nat))) wr.drew:=⟨hSr,p0,p1⟩
   have g0:Gr wr wr.drew:=Gr.drew (Gr.refl _)
   obtain ⟨W0,hW0⟩:∃W0,W0=wr.drew:=⟨_,rfl⟩
   rw[←hW0] at hS0 g0 ⊢
   clear hW0
   refine zu 0 rfl hS0 (fun W hS=>by go_simp;rfl) ?_
   refine zu 1 rfl hS0 (fun W hS=>by have s0:=hS.1.2.1;have s1:=hS.1.2.2.1;have s2:=hS.1.2.2.2;go_simp;rfl) ?_
   refine zu 2 rfl hS0 (fun W hS=>by go_simp;rfl) ?_
   refine zu 4 rfl hS0 (fun W hS=>by go_simp;rfl) ?_
   refine zu 5 rfl hS0 (fun W hS=>by have s2:=hS.1.2.2.2;go_simp;rfl) ?_
   refine zu 6 rfl hS0 (fun W hS=>by go_simp;rfl) ?_
   refine zu 7 rfl hS0 (fun W hS=>by go_simp;rfl) ?_
   refine zu 8 rfl hS0 (fun W hS=>by go_simp;rfl) ?_
   refine zu 9 rfl hS0 (fun W hS=>by have s3:=hS.2.1;go_simp;rfl) ?_
   refine zu 10 rfl hS0 (fun W hS=>by go_simp;rfl) ?_
   refine zu 11 rfl hS0 (fun W hS=>by have s2:=hS.1.2.2.2;go_simp;rfl) ?_
   refine zu 12 rfl hS0 (fun W hS=>by go_simp;rfl) ?_
   refine zu 13 rfl hS0 (fun W hS=>by go_simp;rfl) ?_
   refine zu 14 rfl hS0 (fun W hS=>by go_simp;rfl) ?_
   refine zu 15 rfl hS0 (fun W hS=>by have s4:=hS.2.2;go_simp;rfl) ?_
   refine wpAnyZ_ready (rs:=[3]) (by kernel_rfl) (by simp) ?_
   refine AllReadyZ.cons (i:=3) rfl (by kernel_rfl) ?zx27 AllReadyZ.nil
   intro K hK
   simp only[List.getElem_toArray,List.getElem_cons_succ,List.getElem_cons_zero]
   go_simp
   refine (rhoff_any ag xf (some ad) c m HM.out k HK.out W0 ((HR1.out.gr HGR.out).gr g0)).mono ?_;rintro x W1 ⟨rfl,g1⟩
   have hS2:(fun W=>HdS w.heap.size ag xf (some ad) m.length c W∧W.cell? (ad.add (k*2))=some (.int .i64 (x1:Nat))∧W.cell? ⟨(ad.add (k*2)).block,(ad.add (k*2)).off+1,none⟩=some (.int .i64 (x2:Nat))) W1:=⟨hS0.1.gr g1,(Below.cell g1 (p:=ad.add (k*2)) (Nat.lt_of_lt_of_le (hbk _) g0.size)).trans hS0.2.1,(Below.cell g1 (p:=⟨(ad.add (k*2)).block,(ad.add (k*2)).off+1,none⟩) (Nat.lt_of_lt_of_le (hbk _) g0.size)).trans hS0.2.2⟩
   have own2:=own_grU (own_grU HOWN.out g0) g1
   have HG3:=Lib.hid (g0.trans g1)
   have hbk1:∀z,(ad.add z).block<W1.heap.size:=fun z=>Nat.lt_of_lt_of_le (hbk z) (g0.trans g1).size
   clear g1
   go_wp2_with fail
   refine hK.out _ _ (fun hnz=>?zs27) (fun _=>?zr27)
   case zs27=>exact hS2
   clear hK K
   try (simp only[Pu,List.getElem_toArray,List.getElem_cons_succ,List.getElem_cons_zero])
   refine wpAnyZ_ready (rs:=[16]) (by kernel_rfl) (by simp) ?_
   refine AllReadyZ.cons (i:=16) rfl (by kernel_rfl) ?zx28 AllReadyZ.nil
   intro K hK
   simp only[List.getElem_toArray,List.getElem_cons_succ,List.getElem_cons_zero]
   go_simp
   obtain ⟨W2,hW2⟩:∃W2,W2=W1.alloc (.cells #[.int .i64 (offS m k:Nat), .int .i64 (x1:Nat), .int .i64 (x2:Nat)] 3):=⟨_,rfl⟩
   have hrx:Rd W2 1 (some ⟨W1.heap.size,0,none⟩) 3 (nic [offS m k,x1,x2]):=by rw[hW2];exact Rd.newU (W:=W1) (n:=3) (size:=1) rfl 3 (nic [offS m k,x1,x2]) rfl
   have g2:Gr W1 W2:=by rw[hW2];exact Gr.alloc (Gr.refl _) _
   have hS3:(fun W=>HdS w.heap.size ag xf (some ad) m.length c W∧W.cell? (ad.add (k*2))=some (.int .i64 (x1:Nat))∧W.cell? ⟨(ad.add (k*2)).block,(ad.add (k*2)).off+1,none⟩=some (.int .i64 (x2:Nat))) W2:=⟨hS2.1.gr g2,(Below.cell g2 (p:=ad.add (k*2)) (hbk1 _)).trans hS2.2.1,(Below.cell g2 (p:=⟨(ad.add (k*2)).block,(ad.add (k*2)).off+1,none⟩) (hbk1 _)).trans hS2.2.2⟩
   have own3:=own_grU own2 g2
   rw[←hW2]
   clear hW2
   refine hK.out _ _ (fun hnz=>?zs28) (fun _=>?zr28)
   case zs28=>exact hS3
   clear hK K
   try (simp only[Pu,List.getElem_toArray,List.getElem_cons_succ,List.getElem_cons_zero])
   refine wpAnyZ_ready (rs:=[17]) (by kernel_rfl) (by simp) ?_
   refine AllReadyZ.cons (i:=17) rfl (by kernel_rfl) ?zx29 AllReadyZ.nil
   intro K hK
   simp only[List.getElem_toArray,List.getElem_cons_succ,List.getElem_cons_zero]
   refine wp_append_rd0 (.tmp 28) (.tmp 44) 137 rfl w1.heap.size 3 i0 _ 1 8 Tryz.underlying137 hi0 hy0 hy1 hy2 rfl (by decide) _ (4+3*k) _ rfl own3 (some ⟨W1.heap.size,0,none⟩) 3 _ (nic [offS m k,x1,x2]) rfl hrx (nic_one _) (by unfold maxLen;omega) (by omega) (Nat.le_trans HGR.out.size (HG3.out.trans g2).size) ?_
   intro v' w9 own9 hgr9 hob9
   have hB:∀q,(Value.slice A4 (4+3*k) c4).ownBlock=some q→w1.heap.size≤q:=fun q e=>(own3.lt q e).1
   have k9:Kp (fun q=>(Value.slice A4 (4+3*k) c4).ownBlock=some q) wr w9:=(Kp.of_gr _ (HG3.out.trans g2)).grown hgr9 (fun q hq=> .inl hq)
   have g9:Gr w1 w9:=(HGR.out.trans (HG3.out.trans g2)).grown hgr9 (fun q e=>hB q e)
   have hS9:(fun W=>HdS w.heap.size ag xf (some ad) m.length c W∧W.cell? (ad.add (k*2))=some (.int .i64 (x1:Nat))∧W.cell? ⟨(ad.add (k*2)).block,(ad.add (k*2)).off+1,none⟩=some (.int .i64 (x2:Nat))) w9:=⟨hSr1.out.gr g9,(Below.cell g9 (p:=ad.add (k*2)) (hbk0 _)).trans pw0,(Below.cell g9 (p:=⟨(ad.add (k*2)).block,(ad.add (k*2)).off+1,none⟩) (hbk0 _)).trans pw1⟩
   have H9:=Lib.hid (And.intro own9 g9)
   clear own9 hgr9 hob9 k9 hB own3 hrx
   refine hK.out _ _ (fun hnz=>?zs29) (fun _=>?zr29)
   case zs29=>exact hS9
   clear hK K
   try (simp only[Pu,List.getElem_toArray,List.getElem_cons_succ,List.getElem_cons_zero])
   refine wpAnyZ_ready (rs:=[18]) (by kernel_rfl) (by simp) ?_
   refine AllReadyZ.cons (i:=18) rfl (by kernel_rfl) ?zx30 AllReadyZ.nil
   intro K hK
   simp only[List.getElem_toArray,List.getElem_cons_succ,List.getElem_cons_zero]
   go_simp
   refine hK.out _ _ (fun hnz=>?zs30) (fun _=>?zr30)
   case zs30=>exact absurd rfl hnz
   clear hK K
   try (simp only[Pu,List.getElem_toArray,List.getElem_cons_succ,List.getElem_cons_zero])
   refine wpAnyZ_done (by kernel_rfl) ?_ _
   go_wp2
   go_roundw
   case rel=>
    refine ⟨k+1,HK.out,by go_num,H9.out.2,?_⟩
    rw[arN,HAR.out,←List.append_assoc,nic_app (headN ag xf m++arN m k)]
    exact H9.out.1
   case measure=>have:=HK.out;simp[intOf];omega
  ·
   have hkk:k=m.length:=by omega
   subst hkk
   have hown2:wr.ownsRow w1.heap.size 3 1 u4 (4+3*m.length) (nic (numsH ag xf m)):=hown
   obtain ⟨A4,c4,hv4⟩:=own_form hown2
   subst hv4
   obtain ⟨g,hA,hg1,hg2,hg3⟩:=own_blockU hown2 (by omega)
   subst hA
   obtain ⟨L,hL⟩:∃L,L=numsH ag xf m:=⟨_,rfl⟩
   rw[←hL] at hg3 HN HNL ⊢
   obtain ⟨N,hN⟩:∃N,N=4+3*m.length:=⟨_,rfl⟩
   rw[←hN] at HNL
   have hNi:(N:Int)≤28:=by omega
   have HG3:=Lib.hid hg3
   have HGR:=Lib.hid (And.intro (HG1.out.trans hgr) hgr)
   have hN2:4+3*m.length=N:=hN.symm
   have HLL:=Lib.hid hL
   clear hL hown hown2 hg3 hk hSr hN
   rw[hN2]
   clear hN2
   obtain ⟨Wl,hWl⟩:∃Wl,Wl=wr:=⟨_,rfl⟩
   rw[←hWl] at HG3 HGR hg2 e2 ⊢
   clear hWl
   go_wp2
   go_loopw [6,7] (fun v i wr=>∃k:Nat,k≤N∧i= .int .i64 k∧Gr Wl wr∧wr.ownsRow Wl.heap.size 5 1 v (fourS (L.take k)).length (bys (fourS (L.take k)))) (fun _ i _=>N-(intOf i).toNat)
   case atStart=>exact ⟨0,Nat.zero_le _,rfl,Gr.refl _,World.ownsRow_nil _ _ _ _⟩
   case round=>
    obtain ⟨k,hk,rfl,hgr,hown⟩:=hrel
    by_cases hlt:k<N
    ·
     have hlti:(k:Int)<(N:Int):=by omega
     have hkl:k<L.length:=by rw[HNL.out];exact hlt
     have y0:=(Below.cell hgr (p:=⟨g,k,none⟩) hg2).trans (HG3.out k _ (by simp[nic,hkl];rfl))
     have hft:=fourS_take hkl
     obtain ⟨x,hx⟩:∃x,x=L[k]:=⟨_,rfl⟩
     have hx9:x≤4294967295:=by rw[hx];exact HN.out _ (List.getElem_mem hkl)
     rw[←hx] at y0 hft
     have hxi:(x:Int)≤4294967295:=by omega
     obtain ⟨T,hT⟩:∃T,T=fourS (L.take k):=⟨_,rfl⟩
     have hTl:T.length=4*k:=by rw[hT,fourS_len,List.length_take];omega
     rw[←hT] at hown hft
     have HFT:=Lib.hid hft
     have HGR2:=Lib.hid hgr
     have hgz:=hgr.size
     have hTi:(T.length:Int)≤112:=by omega
     have HTL:=Lib.hid hTl
     obtain ⟨A6,c6,hv6⟩:=own_form hown
     subst hv6
     clear hx hT hft hgr hTl
     go_wp2_with (first|(go_at_call 73;refine (xfour_any x hx9 _).mono ?_;rintro e w5 ⟨rfl,rfl⟩)|(at_builtin;have own5:=own_grU hown (Gr.alloc (Gr.refl wr) (.cells (bys (beB x 4)).toArray 5));have hrx:Rd (wr.alloc (.cells (bys (beB x 4)).toArray 5)) 1 (some ⟨wr.heap.size,0,none⟩) 4 (bys (beB x 4)):=Rd.newU (W:=wr) (n:=4) (size:=1) rfl 5 (bys (beB x 4)) rfl;refine wpList_append_rd rfl (.tmp 52) (.tmp 57) 49 rfl Wl.heap.size 5 j0 _ 1 1 Tryz.underlying49 hj0 hk0 hk1 hk2 rfl (by decide) _ T.length _ rfl own5 (some ⟨wr.heap.size,0,none⟩) 4 _ (bys (beB x 4)) rfl hrx (bys_one _) (by unfold maxLen;omega) (by omega) (by first|(simp;done)|(simp;omega)) ?_;intro v6 w6 own6 hgr6 hob6;have H6:=Lib.hid (And.intro own6 ((HGR2.out.alloc _).grown hgr6 (fun k e=>(own5.lt k e).1)));clear own5 hrx hgr6 hob6 own6 hown))
     go_roundw
     case rel=>
      refine ⟨k+1,by omega,by go_num,H6.out.2,?_⟩
      rw[HFT.out,List.length_append,bys_append,beB_len]
      exact H6.out.1
     case measure=>simp[intOf];omega
    ·
     have hkk:k=N:=by omega
     subst hkk
     rw[List.take_of_length_le (by rw[HNL.out];exact Nat.le_refl _)] at hown
     obtain ⟨A6,c6,hv6⟩:=own_form hown
     subst hv6
     have H9:=Lib.hid (And.intro hown hgr)
     clear hown hgr
     go_wp2
     go_ret2
     have eL:=HLL.out
     subst eL
     refine ⟨A6,c6,rfl,own_capU H9.out.1,Rb.own H9.out.1,HGR.out.1.trans H9.out.2,fun ad e=>?_⟩
     subst e
     exact Nat.le_trans HGR.out.1.size (H9.out.1.lt ad.block rfl).1
theorem rencode_bad (ag xf:Int) (A:Option Addr) (c:Nat) (l:List (Int×Int)) (hM:mayH ag xf l=false) (w:World) (hr:Ri w A l):Calls Tryz.prog 34 #[.agg #[.int .i64 ag, .int .i64 xf, .slice A l.length c]] w fun e w'=>e= .returned (.tuple #[.slice none 0 0, .int .i64 1])∧Gr w w':=by
 obtain ⟨V,hV⟩:∃V,V=w.alloc (.cells #[.int .i64 ag, .int .i64 xf, .slice A l.length c] 24):=⟨_,rfl⟩
 have gV:Gr w V:=by rw[hV];exact Gr.alloc (Gr.refl w) _
 have hz:w.heap.size<V.heap.size:=by rw[hV];simp
 have c0:V.cell? ⟨w.heap.size,0,none⟩=some (.int .i64 ag):=by rw[hV];go_simp
 have c1:V.cell? ⟨w.heap.size,1,none⟩=some (.int .i64 xf):=by rw[hV];go_simp
 have c2:V.cell? ⟨w.heap.size,2,none⟩=some (.slice A l.length c):=by rw[hV];go_simp
 have HV:=Lib.hid hV
 have HG:=Lib.hid gV
 have HR:=Lib.hid (hr.gr gV)
 have hck:=fun W (hW:Ri W A l)=>rmay_any ag xf A c l W hW
 rw[hM] at hck
 have HCK:=Lib.hid hck
 clear hV gV hck
 clear hr hM
 go_enter Tryz.func34,Tryz.ntmps34
 go_upto_region 1 with (fail)
 rw[←HV.out]
 clear HV
 go_wp2_with (go_at_call 6;refine (HCK.out _ HR.out).mono ?_;rintro e w1 ⟨rfl,g1⟩;have d0:=(Below.cell g1 (p:=⟨w.heap.size,0,none⟩) hz).trans c0;have d1:=(Below.cell g1 (p:=⟨w.heap.size,1,none⟩) hz).trans c1;have d2:=(Below.cell g1 (p:=⟨w.heap.size,2,none⟩) hz).trans c2;have hz1:=Nat.lt_of_lt_of_le hz g1.size;have HG1:=Lib.hid (HG.out.trans g1);have HR1:=Lib.hid (HR.out.gr g1);clear c0 c1 c2 hz g1)
 go_ret2
 exact ⟨rfl,HG1.out⟩
end Go.Proofs.YtoncapkmaeghfaaGreat
