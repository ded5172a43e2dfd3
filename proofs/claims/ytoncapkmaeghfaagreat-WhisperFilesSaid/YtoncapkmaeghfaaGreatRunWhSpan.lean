import Derived.Test.YtoncapkmaeghfaaGreatRunWhFit
import Derived.Test.YtoncapkmaeghfaaGreatRunVfMap
import Derived.Test.YtoncapkmaeghfaaGreatRunRwMem
set_option linter.all false
set_option maxRecDepth 1000000
set_option maxHeartbeats 12800000
namespace Go.Proofs.YtoncapkmaeghfaaGreat
open Go.RowKit
theorem hsize_any (ag xf:Int) (A:Option Addr) (c:Nat) (l:List (Int×Int)) (hll:l.length≤400) (w:World) (hr:Ri w A l):Calls Tryz.prog 32 #[.agg #[.int .i64 ag, .int .i64 xf, .slice A l.length c]] w fun e w'=>e= .returned (.int .i64 (bif mayH ag xf l then (sizeS (nats l):Nat) else 0))∧Gr w w':=by
 obtain ⟨V,hV⟩:∃V,V=w.alloc (.cells #[.int .i64 ag, .int .i64 xf, .slice A l.length c] 24):=⟨_,rfl⟩
 have gV:Gr w V:=by rw[hV];exact Gr.alloc (Gr.refl w) _
 have hz:w.heap.size<V.heap.size:=by rw[hV];simp
 have c0:V.cell? ⟨w.heap.size,0,none⟩=some (.int .i64 ag):=by rw[hV];go_simp
 have c1:V.cell? ⟨w.heap.size,1,none⟩=some (.int .i64 xf):=by rw[hV];go_simp
 have c2:V.cell? ⟨w.heap.size,2,none⟩=some (.slice A l.length c):=by rw[hV];go_simp
 have HV:=Lib.hid hV
 have HG:=Lib.hid gV
 have HR:=Lib.hid (hr.gr gV)
 have hck:=fun W (hW:Ri W A l)=>whead_check ag xf A c l hll W hW
 clear hV gV hr
 cases hM:mayH ag xf l
 ·
  rw[hM] at hck
  have HCK:=Lib.hid hck
  clear hck
  go_enter Tryz.func32,Tryz.ntmps32
  go_upto_region 1 with (fail)
  rw[←HV.out]
  clear HV
  go_wp2_with (go_at_call 67;refine (HCK.out _ HR.out).mono ?_;rintro e w1 ⟨rfl,g1⟩;have d0:=(Below.cell g1 (p:=⟨w.heap.size,0,none⟩) hz).trans c0;have d1:=(Below.cell g1 (p:=⟨w.heap.size,1,none⟩) hz).trans c1;have d2:=(Below.cell g1 (p:=⟨w.heap.size,2,none⟩) hz).trans c2;have hz1:=Nat.lt_of_lt_of_le hz g1.size;have HG1:=Lib.hid (HG.out.trans g1);have HR1:=Lib.hid (HR.out.gr g1);clear c0 c1 c2 hz g1 HG HR)
  go_ret
  exact ⟨rfl,HG1.out⟩
 ·
  rw[hM] at hck
  have HCK:=Lib.hid hck
  clear hck
  obtain ⟨m,rfl,hm,ha1,ha2,hx1,hx2⟩:=mayH_nat hM
  have hml:=ints_len m
  have hnm:=nats_ints m
  have hf:=mayS_facts hm
  have hcs:=fun W (hW:Ri W A (ints m))=>whead_size ag xf A c m hf.2.1 (fun a ha=>by obtain ⟨k,h,rfl⟩:=List.mem_iff_getElem.1 ha;exact (hf.2.2.2.2 k h).2.2.2) W hW
  rw[hnm]
  rw[←hml] at hcs
  have HCS:=Lib.hid hcs
  obtain ⟨S,hS⟩:∃S,S=sizeS m:=⟨_,rfl⟩
  rw[←hS] at HCS ⊢
  clear hcs hS hm hf hM hml hnm ha1 ha2 hx1 hx2
  generalize ints m=l at *
  go_enter Tryz.func32,Tryz.ntmps32
  go_upto_region 1 with (fail)
  rw[←HV.out]
  clear HV
  go_wp2_with (first|(go_at_call 67;refine (HCK.out _ HR.out).mono ?_;rintro e w1 ⟨rfl,g1⟩;have d0:=(Below.cell g1 (p:=⟨w.heap.size,0,none⟩) hz).trans c0;have d1:=(Below.cell g1 (p:=⟨w.heap.size,1,none⟩) hz).trans c1;have d2:=(Below.cell g1 (p:=⟨w.heap.size,2,none⟩) hz).trans c2;have hz1:=Nat.lt_of_lt_of_le hz g1.size;have HG1:=Lib.hid (HG.out.trans g1);have HR1:=Lib.hid (HR.out.gr g1);clear c0 c1 c2 hz g1 HG HR)|(go_at_call 70;refine (HCS.out _ HR1.out).mono ?_;rintro e w2 ⟨rfl,g2⟩;have G2:=Lib.hid (HG1.out.trans g2);clear g2 HG1))
  go_ret
  exact ⟨rfl,G2.out⟩
theorem span_any (ag xf:Int) (A:Option Addr) (c:Nat) (l:List (Int×Int)) (hll:l.length≤400) (w:World) (hr:Ri w A l):Calls Tryz.prog 68 #[.agg #[.int .i64 ag, .int .i64 xf, .slice A l.length c]] w fun e w'=>e= .returned (.int .i64 (bif mayH ag xf l then ((lastS (nats l)).1*(lastS (nats l)).2:Nat) else 0))∧Gr w w':=by
 obtain ⟨V,hV⟩:∃V,V=w.alloc (.cells #[.int .i64 ag, .int .i64 xf, .slice A l.length c] 24):=⟨_,rfl⟩
 have gV:Gr w V:=by rw[hV];exact Gr.alloc (Gr.refl w) _
 have hz:w.heap.size<V.heap.size:=by rw[hV];simp
 have c0:V.cell? ⟨w.heap.size,0,none⟩=some (.int .i64 ag):=by rw[hV];go_simp
 have c1:V.cell? ⟨w.heap.size,1,none⟩=some (.int .i64 xf):=by rw[hV];go_simp
 have c2:V.cell? ⟨w.heap.size,2,none⟩=some (.slice A l.length c):=by rw[hV];go_simp
 have HV:=Lib.hid hV
 have HG:=Lib.hid gV
 have HR:=Lib.hid (hr.gr gV)
 have hck:=fun W (hW:Ri W A l)=>whead_check ag xf A c l hll W hW
 clear hV gV hr
 cases hM:mayH ag xf l
 ·
  rw[hM] at hck
  have HCK:=Lib.hid hck
  clear hck
  go_enter Tryz.func68,Tryz.ntmps68
  go_upto_region 1 with (fail)
  rw[←HV.out]
  clear HV
  go_wp2_with (go_at_call 67;refine (HCK.out _ HR.out).mono ?_;rintro e w1 ⟨rfl,g1⟩;have d0:=(Below.cell g1 (p:=⟨w.heap.size,0,none⟩) hz).trans c0;have d1:=(Below.cell g1 (p:=⟨w.heap.size,1,none⟩) hz).trans c1;have d2:=(Below.cell g1 (p:=⟨w.heap.size,2,none⟩) hz).trans c2;have hz1:=Nat.lt_of_lt_of_le hz g1.size;have HG1:=Lib.hid (HG.out.trans g1);have HR1:=Lib.hid (HR.out.gr g1);clear c0 c1 c2 hz g1 HG HR)
  go_ret
  exact ⟨rfl,HG1.out⟩
 ·
  rw[hM] at hck
  have HCK:=Lib.hid hck
  clear hck
  obtain ⟨m,rfl,hm,ha1,ha2,hx1,hx2⟩:=mayH_nat hM
  have hml:=ints_len m
  have hnm:=nats_ints m
  have hf:=mayS_facts hm
  have hm0:0<(ints m).length:=by rw[hml];exact hf.1
  have hlast:lastS m=m[m.length-1]'(by have:=hf.1;omega):=lastS_at hf.1
  obtain ⟨k,hk⟩:∃k,m.length=k+1:=⟨m.length-1,by have:=hf.1;omega⟩
  obtain ⟨ad,rfl,hb,hc⟩:=HR.out hm0
  obtain ⟨p0,p1⟩:=hc k (by omega)
  rw[ints_at m k (by omega)] at p0 p1
  simp only at p0 p1
  have hfk:=hf.2.2.2.2 k (by omega)
  have hlk:lastS m=m[k]'(by omega):=by rw[hlast];congr 1;omega
  rw[hnm,hlk]
  obtain ⟨x1,hx1'⟩:∃x,x=(m[k]'(by omega)).1:=⟨_,rfl⟩
  obtain ⟨x2,hx2'⟩:∃x,x=(m[k]'(by omega)).2:=⟨_,rfl⟩
  rw[←hx1'] at p0 hfk ⊢
  rw[←hx2'] at p1 hfk ⊢
  have hw:=prod_small (x1:Int) x2 (by omega) (by omega) (by omega) (by omega)
  have hki:(k:Int)≤400:=by omega
  have zk:IntKind.i64.wrap (k:Int)=(k:Int):=IntWalk.i64_in (k:Int) (by omega)
  have hlk1:(ints m).length=k+1:=by omega
  have HB:=Lib.hid (And.intro hb (And.intro p0 p1))
  rw[hlk1] at c2 HCK HV ⊢
  clear hx1' hx2' hlast hlk hm hM hml hnm ha1 ha2 hx1 hx2 hf hfk hc hm0 hb p0 p1 hll hk
  go_enter Tryz.func68,Tryz.ntmps68
  go_upto_region 1 with (fail)
  rw[←HV.out]
  clear HV
  go_wp2_with (go_at_call 67;refine (HCK.out _ HR.out).mono ?_;rintro e w1 ⟨rfl,g1⟩;have d0:=(Below.cell g1 (p:=⟨w.heap.size,0,none⟩) hz).trans c0;have d1:=(Below.cell g1 (p:=⟨w.heap.size,1,none⟩) hz).trans c1;have d2:=(Below.cell g1 (p:=⟨w.heap.size,2,none⟩) hz).trans c2;have hz1:=Nat.lt_of_lt_of_le hz g1.size;have HG1:=Lib.hid (HG.out.trans g1);have HR1:=Lib.hid (HR.out.gr g1);have HGV:=Lib.hid g1;clear c0 c1 c2 hz g1 HG HR;obtain ⟨hb,p0,p1⟩:=HB.out;have q0:=(Below.cell HGV.out (p:=ad.add (k*2)) (by rw[adB];exact hb)).trans p0;have q1:=(Below.cell HGV.out (p:=⟨(ad.add (k*2)).block,(ad.add (k*2)).off+1,none⟩) (by show (ad.add (k*2)).block<_;rw[adB];exact hb)).trans p1;clear hb p0 p1 HB HGV)
  go_ret
  exact ⟨ret_i (by go_num),gq⟩
theorem info_u8:(Tryz.prog.info? 5).map (fun i=>(i.zero,i.size,i.bytes))=some (some (.int .u8 0),1,1):=by kernel_rfl
structure Btw (w:World) (B:Nat) (A:Option Addr) (c:Nat) (l:List UInt8):Prop where
 lt:B<w.heap.size
 c0:w.cell? ⟨B,0,none⟩=some (.slice A l.length c)
 f0:w.frozen? ⟨B,0,none⟩=false
 own:w.ownsRow (B+1) 5 1 (.slice A l.length c) l.length (bys l)
def RetBt (w:World) (B:Nat) (A:Option Addr) (l:List UInt8) (e:Ending) (w':World):Prop:=
 e= .returned (.tuple #[])∧∃A' c',Btw w' B A' c' l∧Kp (fun k=>k=B∨blkA A=some k) w w'∧(∀k,blkA A'=some k→blkA A=some k∨w.heap.size≤k)∧∀o,o≠0→w'.cell? ⟨B,o,none⟩=w.cell? ⟨B,o,none⟩
theorem beB_take (n many j:Nat) (h:j<many):(beB n many).take (many-j)=(beB n many).take (many-(j+1))++[(n/256^j%256).toUInt8]:=by
 induction many with
 | zero=>omega
 | succ k ih=>
  rcases Nat.lt_or_ge j k with h1|h1
  ·
   rw[beB,show k+1-j=(k-j)+1 by omega,show k+1-(j+1)=(k-(j+1))+1 by omega,List.take_succ_cons,List.take_succ_cons,ih h1]
   rfl
  ·
   have:j=k:=by omega
   subst this
   rw[beB,show j+1-j=0+1 by omega,Nat.sub_self,List.take_succ_cons,List.take_zero,List.take_zero]
   rfl
theorem Btw.laid {w V w9:World} {B:Nat} {A A9:Option Addr} {c c9:Nat} {l:List UInt8} {d:UInt8} (h:Btw w B A c l) (gV:Gr w V) (own9:w9.ownsRow (B+1) 5 1 (.slice A9 (l.length+1) c9) (l.length+1) (bys (l++[d]))) (hgr:V.grownBy w9 (blkA A)) (hob:blkA A9=blkA A∨blkA A9=some V.heap.size) :
  Btw (w9.setCell ⟨B,0,none⟩ (.slice A9 (l.length+1) c9)) B A9 c9 (l++[d])∧Kp (fun k=>k=B∨blkA A=some k) w (w9.setCell ⟨B,0,none⟩ (.slice A9 (l.length+1) c9))∧(∀k,blkA A9=some k→blkA A=some k∨w.heap.size≤k)∧∀o,o≠0→(w9.setCell ⟨B,0,none⟩ (.slice A9 (l.length+1) c9)).cell? ⟨B,o,none⟩=w.cell? ⟨B,o,none⟩:=by
 have hrow:∀k,blkA A=some k→B<k∧k<w.heap.size:=fun k hk=>by
  have:=h.own.lt k (by rw[own_blkA];exact hk);omega
 have hRA:some B≠blkA A:=fun e=>by have:=(hrow B e.symm).1;omega
 have hR9:w9.heap[B]?=w.heap[B]?:=(hgr.block B (Nat.lt_of_lt_of_le h.lt gV.size) hRA).trans (Below.block gV B h.lt)
 have hlen:(l++[d]).length=l.length+1:=by simp
 refine ⟨⟨by have:=hgr.size;have:=gV.size;have:=h.lt;simp;omega,?_,by rw[World.frozen?_setCell];exact (World.frozen?_of_block (a:=⟨B,0,none⟩) hR9).trans h.f0,?_⟩,?_,fun k hk=>?_,fun o ho=>?_⟩
 ·
  rw[hlen]
  exact World.cell?_setCell_same' _ _ _ (by rw[(World.cell?_of_block (a:=⟨B,0,none⟩) hR9).trans h.c0];rfl)
 ·
  rw[hlen]
  exact own_setU own9 (p:=⟨B,0,none⟩) (Nat.lt_succ_self _) _
 ·
  exact (((Kp.of_gr _ gV).grown hgr (fun k hk=> .inl (.inr hk))).set (p:=⟨B,0,none⟩) (.inl (.inl rfl)) _)
 ·
  rcases hob with e|e
  ·
   exact .inl (e▸hk)
  ·
   rw[e] at hk
   injection hk with hk
   exact .inr (by have:=gV.size;omega)
 ·
  exact (World.cell?_setCell_other w9 ⟨B,0,none⟩ ⟨B,o,none⟩ _ (by first|(simp;done)|(simp;omega))).trans (World.cell?_of_block (a:=⟨B,o,none⟩) hR9)
def LyB (B:Nat) (A:Option Addr) (L c:Nat) (W:World):Prop:=W.cell? ⟨B,0,none⟩=some (.slice A L c)∧W.frozen? ⟨B,0,none⟩=false∧B<W.heap.size
theorem Btw.gr {w w':World} {B:Nat} {A:Option Addr} {c:Nat} {l:List UInt8} (h:Btw w B A c l) (g:Gr w w'):Btw w' B A c l:=
 ⟨Nat.lt_of_lt_of_le h.lt g.size,(Below.cell g (p:=⟨B,0,none⟩) h.lt).trans h.c0,(Below.frozen g (p:=⟨B,0,none⟩) h.lt).trans h.f0,own_grU h.own g⟩
theorem LyB.kept {B L c:Nat} {A:Option Addr} {W W':World} (h:LyB B A L c W) (hs:W.heap.size≤W'.heap.size) (hR:W'.heap[B]?=W.heap[B]?):LyB B A L c W':=
 ⟨(World.cell?_of_block (a:=⟨B,0,none⟩) hR).trans h.1,(World.frozen?_of_block (a:=⟨B,0,none⟩) hR).trans h.2.1,Nat.lt_of_lt_of_le h.2.2 hs⟩
theorem LyB.gr {B L c:Nat} {A:Option Addr} {W W':World} (h:LyB B A L c W) (g:Gr W W'):LyB B A L c W':=h.kept g.size (Below.block g B h.2.2)
theorem lays_any (B:Nat) (n many:Nat) (hn:(n:Int)≤18446744073709551615) (hm:(many:Int)≤8) (A:Option Addr) (c:Nat) (l:List UInt8) (hl:l.length≤100) (w:World) (h:Btw w B A c l) :
  Calls Tryz.prog 121 #[.pointer (some ⟨B,0,none⟩), .int .u64 (n:Nat), .int .i64 (many:Nat)] w (RetBt w B A (l++beB n many)):=by
 obtain ⟨i0,hi0,hz0,hz1,hz2⟩:=info_parts info_u8
 have Hh:=Lib.hid h
 clear h
 go_enter Tryz.func121,Tryz.ntmps121
 go_wp2
 go_loopw [6] (fun i wr=>∃(k:Nat) (A':Option Addr) (c':Nat),k≤many∧i= .int .i64 ((k:Int)-1)∧Btw wr B A' c' (l++(beB n many).take (many-k))∧Kp (fun k=>k=B∨blkA A=some k) w wr∧(∀k,blkA A'=some k→blkA A=some k∨w.heap.size≤k)∧∀o,o≠0→wr.cell? ⟨B,o,none⟩=w.cell? ⟨B,o,none⟩) (fun i _=>(intOf i+1).toNat)
 case atStart=>exact ⟨many,A,c,Nat.le_refl _,rfl,by simpa using Hh.out,Kp.refl _ _,fun k hk=> .inl hk,fun _ _=>rfl⟩
 case round=>
  obtain ⟨k,A',c',hk,rfl,hB,hK,hA,hO⟩:=hrel
  by_cases h0:k=0
  ·
   subst h0
   have HX:Hid (Btw wr B A' c' (l++beB n many)):=Lib.hid (by
    have:=hB
    rwa [Nat.sub_zero,List.take_of_length_le (by rw[beB_len];exact Nat.le_refl _)] at this)
   have HK:=Lib.hid (And.intro hK (And.intro hA hO))
   clear hB hK hA hO
   go_wp2
   go_end0
   exact ⟨rfl,A',c',HX.out,HK.out.1,HK.out.2⟩
  ·
   obtain ⟨j,rfl⟩:∃j,k=j+1:=⟨k-1,by omega⟩
   have hj:((j+1:Nat):Int)-1=j:=by omega
   rw[hj]
   have hj8:(j:Int)<8:=by omega
   have HK:=Lib.hid (And.intro hK (And.intro hA hO))
   have HB:=Lib.hid hB
   obtain ⟨m,hmm⟩:∃m,m=l++(beB n many).take (many-(j+1)):=⟨_,rfl⟩
   rw[←hmm] at hB
   have hml:m.length≤108:=by
    rw[hmm,List.length_append,List.length_take,beB_len];omega
   have hS0:LyB B A' m.length c' wr.drew:=⟨hB.c0,hB.f0,hB.lt⟩
   have own7:=hB.own
   have hvl:=own7.lt
   have Hm:=Lib.hid hmm
   have h8:IntKind.i64.wrap (8*(j:Int))=8*(j:Int):=IntWalk.i64_in _ (by omega)
   obtain ⟨Q,hQ⟩:∃Q,Q=n/256^j:=⟨_,rfl⟩
   obtain ⟨d,hd⟩:∃d:UInt8,d=(Q%256).toUInt8:=⟨_,rfl⟩
   have hcv:IntKind.u8.wrap ((n:Int)/2^(8*(j:Int)).toNat)=(d.toNat:Int):=by
    have e:(8*(j:Int)).toNat=8*j:=by omega
    have e2:(n:Int)/2^(8*j)=(Q:Int):=by
     rw[hQ]
     rw[show (256:Nat)^j=2^(8*j) from by rw[Nat.pow_mul]]
     simp
    rw[e,e2,hd,toNat_mod,IntKind.wrap_u8]
    simp
   have HQ:=Lib.hid (And.intro hQ hd)
   clear hB hK hA hO hmm hQ hd
   go_upto_region 3 with (fail)
   refine wp_region_Z 14 (LyB B A' m.length c') (by kernel_rfl) ?_
   obtain ⟨V,hV⟩:∃V,V=wr.drew:=⟨_,rfl⟩
   rw[←hV] at hS0 ⊢
   have HV:=Lib.hid hV
   clear hV
   refine zu 0 rfl hS0 (fun W hS=>by go_simp;rfl) ?_
   refine zu 1 rfl hS0 (fun W hS=>by go_simp;rfl) ?_
   refine zu 2 rfl hS0 (fun W hS=>by go_simp;rfl) ?_
   refine zu 3 rfl hS0 (fun W hS=>by go_simp;rfl) ?_
   refine zu 4 rfl hS0 (fun W hS=>by obtain ⟨s0, -⟩:=hS;go_simp;rfl) ?_
   refine zu 5 rfl hS0 (fun W hS=>by go_simp;rfl) ?_
   refine zu 6 rfl hS0 (fun W hS=>by go_simp;rfl) ?_
   refine zu 7 rfl hS0 (fun W hS=>by go_simp;rfl) ?_
   refine zu 8 rfl hS0 (fun W hS=>by go_simp;rfl) ?_
   refine zu 9 rfl hS0 (fun W hS=>by go_simp;rfl) ?_
   refine wpAnyZ_ready (rs:=[10]) (by kernel_rfl) (by simp) ?_
   refine AllReadyZ.cons (i:=10) rfl (by kernel_rfl) ?zx10 AllReadyZ.nil
   intro K hK
   simp only[List.getElem_toArray,List.getElem_cons_succ,List.getElem_cons_zero]
   have hS7:=hS0.gr (Gr.alloc (Gr.refl _) (.cells #[.int .u8 (d.toNat:Int)] 5))
   have ownV:V.ownsRow (B+1) 5 1 (.slice A' m.length c') m.length (bys m):=by rw[HV.out];exact own7
   have own8:=ownV.alloc (.cells #[.int .u8 (d.toNat:Int)] 5)
   have hrx:Rd (V.alloc (.cells #[.int .u8 (d.toNat:Int)] 5)) 1 (some ⟨V.heap.size,0,none⟩) 1 (bys [d]):=Rd.newU (W:=V) rfl 5 (bys [d]) rfl
   clear ownV own7
   go_simp
   refine hK.out _ _ (fun hnz=>?zs10) (fun _=>?zr10)
   case zs10=>exact hS7
   clear hK K
   try (simp only[Pu,List.getElem_toArray,List.getElem_cons_succ,List.getElem_cons_zero])
   refine wpAnyZ_ready (rs:=[11]) (by kernel_rfl) (by simp) ?_
   refine AllReadyZ.cons (i:=11) rfl (by kernel_rfl) ?zx11 AllReadyZ.nil
   intro K hK
   simp only[List.getElem_toArray,List.getElem_cons_succ,List.getElem_cons_zero]
   refine wp_append_rd0 (.tmp 17) (.tmp 23) 49 rfl (B+1) 5 i0 _ 1 1 Tryz.underlying49 hi0 hz0 hz1 hz2 rfl (by decide) _ m.length _ rfl own8 (some ⟨V.heap.size,0,none⟩) 1 _ (bys [d]) rfl hrx (bys_one _) (by unfold maxLen;omega) (by omega) (by have:=hS0.2.2;simp;omega) ?_
   intro v' w9 own9 hgr9 hob9
   obtain ⟨A9,c9,hv9⟩:=own_form own9
   subst hv9
   have hgr9:(V.alloc (.cells #[.int .u8 (d.toNat:Int)] 5)).grownBy w9 (Value.slice A' m.length c').ownBlock:=hgr9
   have hob9:(Value.slice A9 (m.length+1) c9).ownBlock=(Value.slice A' m.length c').ownBlock∨(Value.slice A9 (m.length+1) c9).ownBlock=some (V.alloc (.cells #[.int .u8 (d.toNat:Int)] 5)).heap.size:=hob9
   rw[own_blkA] at hgr9
   rw[own_blkA,own_blkA] at hob9
   have hS9:LyB B A' m.length c' w9:=hS7.kept hgr9.size (hgr9.block B hS7.2.2 (fun e=>by have:=(hvl B (by rw[own_blkA];exact e.symm)).1;omega))
   have Hg9:=Lib.hid (And.intro own9 (And.intro hgr9 hob9))
   clear own9 hgr9 hob9 hS7 own8 hrx
   refine hK.out _ _ (fun hnz=>?zs11) (fun _=>?zr11)
   case zs11=>exact hS9
   clear hK K
   try (simp only[Pu,List.getElem_toArray,List.getElem_cons_succ,List.getElem_cons_zero])
   refine wpAnyZ_ready (rs:=[12]) (by kernel_rfl) (by simp) ?_
   refine AllReadyZ.cons (i:=12) rfl (by kernel_rfl) ?zx12 AllReadyZ.nil
   intro K hK
   simp only[List.getElem_toArray,List.getElem_cons_succ,List.getElem_cons_zero]
   go_simp
   refine hK.out _ _ (fun hnz=>?zs12) (fun _=>?zr12)
   case zs12=>exact hS9
   clear hK K
   try (simp only[Pu,List.getElem_toArray,List.getElem_cons_succ,List.getElem_cons_zero])
   refine wpAnyZ_ready (rs:=[13]) (by kernel_rfl) (by simp) ?_
   refine AllReadyZ.cons (i:=13) rfl (by kernel_rfl) ?zx13 AllReadyZ.nil
   intro K hK
   simp only[List.getElem_toArray,List.getElem_cons_succ,List.getElem_cons_zero]
   go_simp
   refine hK.out _ _ (fun hnz=>?zs13) (fun _=>?zr13)
   case zs13=>exact hS9
   clear hK K
   try (simp only[Pu,List.getElem_toArray,List.getElem_cons_succ,List.getElem_cons_zero])
   refine wpAnyZ_ready (rs:=[14]) (by kernel_rfl) (by simp) ?_
   refine AllReadyZ.cons (i:=14) rfl (by kernel_rfl) ?zx14 AllReadyZ.nil
   intro K hK
   simp only[List.getElem_toArray,List.getElem_cons_succ,List.getElem_cons_zero]
   obtain ⟨s0,s1,hzR⟩:=id hS9
   go_simp
   refine hK.out _ _ (fun hnz=>?zs14) (fun _=>?zr14)
   case zs14=>exact absurd rfl hnz
   clear hK K
   try (simp only[Pu,List.getElem_toArray,List.getElem_cons_succ,List.getElem_cons_zero])
   refine wpAnyZ_done (by kernel_rfl) ?_ _
   obtain ⟨own9,hgr9,hob9⟩:=Hg9.out
   obtain ⟨f1,f2,f3,f4⟩:=(show Btw wr B A' c' m by rw[Hm.out];exact HB.out).laid (d:=d) (show Gr wr _ by rw[HV.out];exact (Gr.drew (Gr.refl wr)).alloc _) (by rw[bys_append];exact own9) hgr9 hob9
   have HF:=Lib.hid (And.intro f1 (And.intro f2 (And.intro f3 f4)))
   generalize w9.setCell ⟨B,0,none⟩ (.slice A9 (m.length+1) c9)=w10 at HF ⊢
   clear f1 f2 f3 f4 own9 hgr9 hob9 Hg9 hS9 s1 s0
   have HN:Hid (m++[d]=l++(beB n many).take (many-j)):=Lib.hid (by
    rw[Hm.out,HQ.out.2,HQ.out.1,beB_take n many j (by omega),List.append_assoc])
   go_wp2
   go_roundw
   case rel=>
    refine ⟨j,A9,c9,by omega,rfl,by rw[←HN.out];exact HF.out.1,HK.out.1.trans HF.out.2.1 (fun i hi hs=>?_),fun k hk=>?_,fun o ho=>(HF.out.2.2.2 o ho).trans (HK.out.2.2 o ho)⟩
    ·
     rcases hs with h|h
     ·
      exact .inl h
     ·
      rcases HK.out.2.1 i h with h2|h2
      ·
       exact .inr h2
      ·
       omega
    ·
     rcases HF.out.2.2.1 k hk with h|h
     ·
      exact HK.out.2.1 k h
     ·
      exact .inr (Nat.le_trans HK.out.1.size h)
   case measure=>simp[intOf]
theorem at_any (B:Nat) (t:Int) (w:World) (c1:w.cell? ⟨B,1,none⟩=some (.int .i64 t)):Calls Tryz.prog 122 #[.pointer (some ⟨B,0,none⟩)] w fun e w'=>e= .returned (.int .u64 (at4 t:Nat))∧w=w':=by
 have e1:((at4 t:Nat):Int)=max 0 (min t 4294967295):=by unfold at4;omega
 by_cases h1:t≤4294967295
 ·
  by_cases h2:0<t
  ·
   have e3:((at4 t:Nat):Int)=t:=by omega
   have e2:IntKind.u64.wrap t=t:=by rw[IntKind.wrap_u64];omega
   rw[e3]
   clear e1 e3
   go_enter Tryz.func122,Tryz.ntmps122
   go_wp2
   go_ret
   exact ⟨by first|rfl|(show Ending.returned (Value.int .u64 (max 0 (min t 4294967295)))=_;rw[show max 0 (min t 4294967295)=t by omega]),rfl⟩
  ·
   have e3:((at4 t:Nat):Int)=0:=by omega
   rw[e3]
   clear e1 e3
   go_enter Tryz.func122,Tryz.ntmps122
   go_wp2
   go_ret
   exact ⟨by first|rfl|(show Ending.returned (Value.int .u64 (max 0 (min t 4294967295)))=_;rw[show max 0 (min t 4294967295)=0 by omega]),rfl⟩
 ·
  have e3:((at4 t:Nat):Int)=4294967295:=by omega
  rw[e3]
  clear e1 e3
  go_enter Tryz.func122,Tryz.ntmps122
  go_wp2
  go_ret
  exact ⟨by first|rfl|(show Ending.returned (Value.int .u64 (max 0 (min t 4294967295)))=_;rw[show max 0 (min t 4294967295)=4294967295 by omega]),rfl⟩
theorem own_capA {w:World} {base:Nat} {e:TypeId} {size n c:Nat} {A:Option Addr} {xs:List Value} (h:w.ownsRow base e size (.slice A n c) n xs):n≤c:=by
 obtain ⟨h1,⟨hv,h0⟩|⟨g',cap,cur,hv,hb,hh,h2,h3⟩⟩:=h
 ·
  injection hv with _ _ h3
  omega
 ·
  injection hv with _ _ h4
  rw[h4];exact h2
def EnS (B:Nat) (t n:Int) (W:World):Prop:=W.cell? ⟨B,1,none⟩=some (.int .i64 t)∧W.cell? ⟨B,2,none⟩=some (.int .i64 n)∧B<W.heap.size
theorem EnS.gr {B:Nat} {t n:Int} {W W':World} (h:EnS B t n W) (g:Gr W W'):EnS B t n W':=
 ⟨(Below.cell g (p:=⟨B,1,none⟩) h.2.2).trans h.1,(Below.cell g (p:=⟨B,2,none⟩) h.2.2).trans h.2.1,Nat.lt_of_lt_of_le h.2.2 g.size⟩
def RetBs (l:List UInt8) (w:World) (e:Ending) (w':World):Prop:=∃A c,e= .returned (.slice A l.length c)∧l.length≤c∧Rb w' A l∧Gr w w'∧∀ad,A=some ad→w.heap.size≤ad.block
theorem encode_any (t n:Int) (w:World):Calls Tryz.prog 112 #[.agg #[.int .i64 t, .int .i64 n]] w (RetBs (encP t n) w):=by
 obtain ⟨V,hV⟩:∃V,V=(w.alloc (.cells #[.int .i64 t, .int .i64 n] 54)).alloc (.cells #[.slice none 0 0, .int .i64 t, .int .i64 n] 177):=⟨_,rfl⟩
 have gV:Gr w V:=by rw[hV];exact Gr.alloc (Gr.alloc (Gr.refl w) _) _
 have hz:V.heap.size=w.heap.size+2:=by rw[hV];simp
 have b0:Btw V (w.heap.size+1) none 0 []:=⟨by omega,by rw[hV];go_simp,by rw[hV];go_simp,World.ownsRow_nil _ _ _ _⟩
 have e0:EnS (w.heap.size+1) t n V:=⟨by rw[hV];go_simp,by rw[hV];go_simp,by omega⟩
 have HV:=Lib.hid hV
 have GV:=Lib.hid gV
 have HB:=Lib.hid b0
 have h5:(at4 t:Int)≤18446744073709551615:=by have:at4 t<4294967296:=(by unfold at4;omega);omega
 have h6:(u64 n:Int)≤18446744073709551615:=by have:=u64_lt n;omega
 have HL1:=Lib.hid (fun W (hB:Btw W (w.heap.size+1) none 0 [])=>lays_any (w.heap.size+1) (at4 t) 4 h5 (by omega) none 0 [] (by decide) W hB)
 have hw6:IntKind.u64.wrap n=(u64 n:Nat):=by rw[IntKind.wrap_u64];unfold u64;omega
 clear hV gV b0 h5
 go_enter Tryz.func112,Tryz.ntmps112
 go_upto_region 2 with (fail)
 rw[←HV.out]
 clear HV
 refine wp_region_Z 5 (EnS (w.heap.size+1) t n) (by kernel_rfl) ?_
 obtain ⟨V1,hV1⟩:∃V1,V1=V.drew:=⟨_,rfl⟩
 have g1:Gr V V1:=by rw[hV1];exact Gr.drew (Gr.refl V)
 have hS0:=e0.gr g1
 have HB1:Hid (Btw V1 (w.heap.size+1) none 0 []):=Lib.hid (HB.out.gr g1)
 have G1:=Lib.hid (GV.out.trans g1)
 rw[←hV1]
 clear hV1 g1 e0 HB GV hz
 refine zu 0 rfl hS0 (fun W hS=>by go_simp;rfl) ?_
 refine zu 1 rfl hS0 (fun W hS=>by go_simp;rfl) ?_
 refine zu 2 rfl hS0 (fun W hS=>by go_simp;rfl) ?_
 refine zu 3 rfl hS0 (fun W hS=>by go_simp;rfl) ?_
 refine wpAnyZ_ready (rs:=[4]) (by kernel_rfl) (by simp) ?_
 refine AllReadyZ.cons (i:=4) rfl (by kernel_rfl) ?zx4 AllReadyZ.nil
 intro K hK
 simp only[List.getElem_toArray,List.getElem_cons_succ,List.getElem_cons_zero]
 go_simp
 refine (at_any _ t _ hS0.1).mono ?_;rintro x w2 ⟨rfl,rfl⟩
 go_wp2_with fail
 refine hK.out _ _ (fun hnz=>?zs4) (fun _=>?zr4)
 case zs4=>exact hS0
 clear hK K
 try (simp only[Pu,List.getElem_toArray,List.getElem_cons_succ,List.getElem_cons_zero])
 refine wpAnyZ_ready (rs:=[5]) (by kernel_rfl) (by simp) ?_
 refine AllReadyZ.cons (i:=5) rfl (by kernel_rfl) ?zx5 AllReadyZ.nil
 intro K hK
 simp only[List.getElem_toArray,List.getElem_cons_succ,List.getElem_cons_zero]
 go_simp
 refine (HL1.out _ HB1.out).mono ?_;rintro x w3 ⟨rfl,A3,c3,hB3,hK3,hR3,hO3⟩
 have e3:EnS (w.heap.size+1) t n w3:=⟨(hO3 1 (by decide)).trans hS0.1,(hO3 2 (by decide)).trans hS0.2.1,Nat.lt_of_lt_of_le hS0.2.2 hK3.size⟩
 have H3:=Lib.hid (And.intro hB3 (And.intro hK3 hR3))
 clear hB3 hK3 hR3 hO3
 go_wp2_with fail
 refine hK.out _ _ (fun hnz=>?zs5) (fun _=>?zr5)
 case zs5=>exact absurd rfl hnz
 clear hK K
 try (simp only[Pu,List.getElem_toArray,List.getElem_cons_succ,List.getElem_cons_zero])
 refine wpAnyZ_done (by kernel_rfl) ?_ _
 rw[List.nil_append] at H3
 have HL2:=Lib.hid (fun W (hB:Btw W (w.heap.size+1) A3 c3 (beB (at4 t) 4))=>lays_any (w.heap.size+1) (u64 n) 8 h6 (by omega) A3 c3 (beB (at4 t) 4) (by rw[beB_len];omega) W hB)
 clear hS0
 go_upto_region 3 with (fail)
 refine wp_region_Z 9 (EnS (w.heap.size+1) t n) (by kernel_rfl) ?_
 obtain ⟨V4,hV4⟩:∃V4,V4=w3.drew:=⟨_,rfl⟩
 have g4:Gr w3 V4:=by rw[hV4];exact Gr.drew (Gr.refl w3)
 have hS4:=e3.gr g4
 have HB4:=Lib.hid (H3.out.1.gr g4)
 have G4:=Lib.hid g4
 rw[←hV4]
 clear hV4 g4 e3
 refine zu 0 rfl hS4 (fun W hS=>by go_simp;rfl) ?_
 refine zu 1 rfl hS4 (fun W hS=>by go_simp;rfl) ?_
 refine zu 2 rfl hS4 (fun W hS=>by go_simp;rfl) ?_
 refine zu 3 rfl hS4 (fun W hS=>by go_simp;rfl) ?_
 refine zu 4 rfl hS4 (fun W hS=>by go_simp;rfl) ?_
 refine zu 5 rfl hS4 (fun W hS=>by go_simp;rfl) ?_
 refine zu 6 rfl hS4 (fun W hS=>by go_simp;rfl) ?_
 refine zu 7 rfl hS4 (fun W hS=>by obtain ⟨-,s1, -⟩:=hS;go_simp;rfl) ?_
 refine zu 8 rfl hS4 (fun W hS=>by go_simp;rfl) ?_
 refine wpAnyZ_ready (rs:=[9]) (by kernel_rfl) (by simp) ?_
 refine AllReadyZ.cons (i:=9) rfl (by kernel_rfl) ?zy9 AllReadyZ.nil
 intro K hK
 simp only[List.getElem_toArray,List.getElem_cons_succ,List.getElem_cons_zero]
 go_simp
 refine (HL2.out _ HB4.out).mono ?_;rintro x w5 ⟨rfl,A5,c5,hB5,hK5,hR5,hO5⟩
 have c0:=hB5.c0
 have H5:=Lib.hid (And.intro hB5 (And.intro hK5 hR5))
 clear hB5 hK5 hR5 hO5
 go_wp2_with fail
 refine hK.out _ _ (fun hnz=>?zt9) (fun _=>?zq9)
 case zt9=>exact absurd rfl hnz
 clear hK K
 try (simp only[Pu,List.getElem_toArray,List.getElem_cons_succ,List.getElem_cons_zero])
 refine wpAnyZ_done (by kernel_rfl) ?_ _
 have hlt5:w.heap.size+1<w5.heap.size:=H5.out.1.lt
 clear hS4
 go_wp2
 go_ret
 have hle:=own_capA H5.out.1.own
 refine ⟨A5,c5,rfl,hle,Rb.own H5.out.1.own,?_,fun ad e=>?_⟩
 ·
  exact ((Kp.of_gr (fun _=>False) G1.out).trans (S2:=fun k=>w.heap.size≤k) ((H3.out.2.1.trans (Kp.of_gr (fun _=>False) G4.out) (fun _ _ h=>h.elim)).mono fun i _ hs=>by
   rcases hs with h|h
   ·
    omega
   ·
    cases h) (fun i hi h=>by omega)).trans (S2:=fun k=>w.heap.size≤k) (H5.out.2.1.mono fun i _ hs=>by
   rcases hs with h|h
   ·
    omega
   ·
    rcases H3.out.2.2 i h with h2|h2
    ·
     cases h2
    ·
     have:=G1.out.size;omega) (fun i hi h=>by omega) |>.gr (fun k _ h=>h)
 ·
  have:=(H5.out.1.own.lt ad.block (by rw[e];rfl)).1
  omega
def RetNm (base k:Nat) (l:List UInt8) (n:Nat) (v:Value) (w:World) (e:Ending) (w':World):Prop:=
 ∃v',e= .returned v'∧w'.ownsRow base 5 1 v' (k+4) (bys (l++beB n 4))∧Kp (fun b=>v.ownBlock=some b) w w'∧∀b,v'.ownBlock=some b→v.ownBlock=some b∨w.heap.size≤b
theorem four_bytes (n:Nat) (hn:(n:Int)≤4294967295):bys (beB n 4)=[.int .u8 ((n:Int)/16777216), .int .u8 ((n:Int)/65536%256), .int .u8 ((n:Int)/256%256), .int .u8 ((n:Int)%256)]:=by
 simp only[bys,beB,List.map_cons,List.map_nil,toNat_mod]
 rw[show n/256^3%256=n/16777216 by omega,show n/256^2%256=n/65536%256 by omega,show n/256^1%256=n/256%256 by omega,show n/256^0%256=n%256 by omega]
 rfl
theorem number_any (n:Nat) (hn:(n:Int)≤4294967295) (base k:Nat) (v:Value) (l:List UInt8) (hk:k≤1000) (w:World) (ho:w.ownsRow base 5 1 v k (bys l)) (hbs:base≤w.heap.size) :
  Calls Tryz.prog 69 #[v, .int .i64 n] w (RetNm base k l n v w):=by
 obtain ⟨i0,hi0,hz0,hz1,hz2⟩:=info_parts info_u8
 have HO:=Lib.hid ho
 have HB:=Lib.hid hbs
 clear ho hbs
 go_enter Tryz.func69,Tryz.ntmps69
 go_wp2_with (at_builtin;refine wpList_append_rd rfl (.tmp 5) (.tmp 17) 49 rfl base 5 i0 _ 1 1 Tryz.underlying49 hi0 hz0 hz1 hz2 rfl (by decide) v k (bys l) rfl (own_grU HO.out (Gr.alloc (Gr.refl w) (.cells #[.int .u8 ((n:Int)/16777216), .int .u8 ((n:Int)/65536%256), .int .u8 ((n:Int)/256%256), .int .u8 ((n:Int)%256)] 5))) (some ⟨w.heap.size,0,none⟩) 4 4 (bys (beB n 4)) rfl (by rw[four_bytes n hn];exact Rd.newU (W:=w) rfl _ [.int .u8 ((n:Int)/16777216), .int .u8 ((n:Int)/65536%256), .int .u8 ((n:Int)/256%256), .int .u8 ((n:Int)%256)] rfl) (bys_one _) (by unfold maxLen;omega) (by omega) (by simp;have:=HB.out;omega) ?_;intro v' w3 hown2 hgr2 hat2)
 have HR:Hid (RetNm base k l n v w (.returned v') w3):=Lib.hid ⟨v',rfl,by rw[bys_append];exact hown2,((Kp.of_gr _ (Gr.alloc (Gr.refl w) _)).grown hgr2 (fun b hb=> .inl hb)),fun b hb=>by
  rcases hat2 with h|h
  ·
   exact .inl (h▸hb)
  ·
   rw[h] at hb;injection hb with hb;exact .inr (by rw[←hb];simp)⟩
 clear hown2 hgr2 hat2
 go_wp2
 go_ret
 exact HR.out
end Go.Proofs.YtoncapkmaeghfaaGreat
