import Derived.Test.YtoncapkmaeghfaaGreatRunWiFet
import Derived.Test.YtoncapkmaeghfaaGreatRunRwInf
set_option linter.all false
set_option maxRecDepth 1000000
set_option maxHeartbeats 12800000
namespace Go.Proofs.YtoncapkmaeghfaaGreat
section
open Go.RowKit Go.ChangeMaps Go.Maps
def foldP (D0:List UInt8) (l:List Chg) (q:Nat):List UInt8:=(l.take q).foldl (fun D c=>putB D c.off c.dat) D0
theorem foldP_succ {D0:List UInt8} {l:List Chg} {q:Nat} (h:q<l.length):foldP D0 l (q+1)=putB (foldP D0 l q) l[q].off l[q].dat:=by
 unfold foldP
 rw[List.take_succ_eq_append_getElem h,List.foldl_append]
 rfl
theorem foldP_len {D0:List UInt8} {l:List Chg} (hl:∀c∈l,c.off+c.dat.length≤D0.length):∀q,q≤l.length→(foldP D0 l q).length=D0.length
 | 0,_=>rfl
 | q+1,h=>by
  have ih:=foldP_len hl q (by omega)
  rw[foldP_succ (by omega),putB_len (by rw[ih];exact hl _ (List.getElem_mem _)),ih]
theorem crash_full:∀(l:List Chg) (n m:Nat) (D0:List UInt8),l.length≤n→crashL (l.map chgP) n m D0=foldP D0 l l.length
 | [],_,_,_,_=>rfl
 | c::r,0,_,_,h=>by simp at h
 | c::r,n+1,m,D0,h=>by
  rw[List.map_cons,chgP,crashL,crash_full r n m _ (by simpa using h)]
  rfl
theorem crash_part:∀(l:List Chg) (n m:Nat) (D0:List UInt8) (h:n<l.length),crashL (l.map chgP) n m D0=putB (foldP D0 l n) l[n].off (l[n].dat.take m)
 | c::r,0,m,D0,_=>rfl
 | c::r,n+1,m,D0,h=>by
  rw[List.map_cons,chgP,crashL,crash_part r n m _ (by simpa using h)]
  rfl
theorem FsM.remap {Y:Nat→Prop} {w w2:World} {F P M:Nat} {R:Option Nat} {Ms:Nat} {room:Int} {n:Nat} {D:Option (List UInt8)} {D0:List UInt8} {l:List Chg} (h:FsM Y w F P M R room n D) (hp:PnM w F P M R Ms D0 l) (g:Gr w w2) {M':Nat} (hM1:w.heap.size≤M') (hM2:M'<w2.heap.size) {es:Array MapEntry} {clk clk2:Nat} (hb:w2.heap[M']?=some (.map es clk)) (hb2:w.heap[Ms]?=some (.map es clk2)) :
  FsM (fun _=>False) (w2.setCell ⟨F,2,none⟩ (.map (some M'))) F P M' R room n (some D0)∧Kp (fun k=>k=F) w (w2.setCell ⟨F,2,none⟩ (.map (some M'))):=by
 have kS:Kp (fun k=>k=F) w (w2.setCell ⟨F,2,none⟩ (.map (some M'))):=(Kp.of_gr (fun k=>k=F) g).set (p:=⟨F,2,none⟩) (.inl rfl) _
 have k2:Kp (fun k=>k=F) w2 (w2.setCell ⟨F,2,none⟩ (.map (some M'))):=(Kp.refl (fun k=>k=F) w2).set (p:=⟨F,2,none⟩) (.inl rfl) _
 have lR:∀i,R=some i→i<w.heap.size:=fun i e=>by
  obtain ⟨v,xs,v1,v2,v3⟩:=h.p0
  exact (v3.lt i (by rw[v2];exact e)).2
 have lf:=h.lf
 have lp:=h.lp
 obtain ⟨v,xs,v1,v2,v3⟩:=h.p0
 obtain ⟨y,hy⟩:=h.p1
 refine ⟨⟨Nat.lt_of_lt_of_le h.lf kS.size,Nat.lt_of_lt_of_le h.lp kS.size,Nat.lt_of_lt_of_le hM2 k2.size,h.nfp,fun e=>by omega,fun e=>by omega,?_,?_,?_,⟨v,xs,(kS.cell (a:=⟨P,0,none⟩) h.lp (fun e=>h.nfp e.symm)).trans v1,v2,kS.own v3 (fun i hi e=>(h.rr i (by rw[←v2];exact hi)).1 e)⟩,⟨y,(kS.cell (a:=⟨P,1,none⟩) h.lp (fun e=>h.nfp e.symm)).trans hy⟩,(kS.frozen (a:=⟨P,0,none⟩) h.lp (fun e=>h.nfp e.symm)).trans h.z0,(kS.frozen (a:=⟨P,1,none⟩) h.lp (fun e=>h.nfp e.symm)).trans h.z1,fun i hi=>⟨(h.rr i hi).1,(h.rr i hi).2.1,fun e=>by have:=lR i hi;omega⟩,fun _ e=>e.elim,?_⟩,kS⟩
 ·
  exact (World.cell?_setCell_other w2 ⟨F,2,none⟩ ⟨F,0,none⟩ _ (by first|(simp;done)|(simp;omega))).trans ((Below.cell g (p:=⟨F,0,none⟩) h.lf).trans h.f0)
 ·
  exact (World.cell?_setCell_other w2 ⟨F,2,none⟩ ⟨F,1,none⟩ _ (by first|(simp;done)|(simp;omega))).trans ((Below.cell g (p:=⟨F,1,none⟩) h.lf).trans h.f1)
 ·
  exact World.cell?_setCell_same' _ _ _ (by rw[Below.cell g (p:=⟨F,2,none⟩) h.lf,h.f2];rfl)
 ·
  obtain ⟨clk3,born,A,c,hb3,hc,hr,hq⟩:=hp.ms
  rw[hb2] at hb3
  injection hb3 with hb3
  injection hb3 with hb3 _
  subst hb3
  have hx:=(hq.imp (Q':=fun g=>(g≠P∧g≠M'∧R≠some g∧¬False)∧¬g=F) (fun q hq hx=>⟨⟨hx.2.1,fun e=>by omega,hx.2.2.2,fun e=>e⟩,hx.1⟩)).kp kS (fun q _ hx e=>hx.2 e) hr
  exact ⟨clk,born,A,c,(k2.block M' hM2 (fun e=>by omega)).trans hb,hc,hx.1,hx.2.imp (fun _ _ hx=>hx.1)⟩
theorem take_rb {w:World} {g:Nat} {l:List UInt8} (h:Rb w (some ⟨g,0,none⟩) l) (m:Nat):Rb w (some ⟨g,0,none⟩) (l.take m):=by
 refine ⟨by rw[bys_length],fun h0=>?_⟩
 rw[List.length_take] at h0
 obtain ⟨ad,e,hb,hc⟩:=h.2 (by omega)
 refine ⟨ad,e,hb,fun j u hu=>?_⟩
 refine hc j u ?_
 rw[bys_take] at hu
 rw[List.getElem?_take] at hu
 split at hu
 ·
  exact hu
 ·
  cases hu
theorem own_capV' {w:World} {base:Nat} {e:TypeId} {size n c:Nat} {A:Option Addr} {xs:List Value} (h:w.ownsRow base e size (.slice A n c) n xs):n≤c∧(c:Int)≤9223372036854775807∧(A=none∧n=0∨∃g,A=some ⟨g,0,none⟩):=by
 obtain ⟨h1,⟨hv,h0⟩|⟨g',cap,cur,hv,hb,hh,h2,h3,h4⟩⟩:=h
 ·
  injection hv with h1 h2 h3
  exact ⟨by omega,by omega, .inl ⟨h1,h2⟩⟩
 ·
  injection hv with hv1 _ hv3
  subst hv3
  unfold maxLen at h3
  exact ⟨h2,by omega, .inr ⟨g',hv1⟩⟩

theorem crash_any {Y:Nat→Prop} {F P M:Nat} {R:Option Nat} {Ms:Nat} {room:Int} {D:Option (List UInt8)} {D0:List UInt8} {l:List Chg} (n m:Int) (hn:0≤n) (hm:0≤m) (hm2:m≤1000000) (hl:∀c∈l,c.off+c.dat.length≤D0.length) (h0:0<D0.length) (hD:(D0.length:Int)≤1073741824) (hll:l.length≤1000000) (w:World) (h:FsM Y w F P M R room l.length D) (hp:PnM w F P M R Ms D0 l) (zF:w.frozen? ⟨F,2,none⟩=false) :
  Calls Tryz.prog 63 #[.pointer (some ⟨F,0,none⟩), .int .i64 n, .int .i64 m] w fun e w'=>e= .returned (.tuple #[])∧∃M',w.heap.size≤M'∧FsM (fun _=>False) w' F P M' none room 0 (some (crashL (l.map chgP) n.toNat m.toNat D0))∧Kp (fun k=>k=F∨k=P) w w':=by
 obtain ⟨N,hN⟩:∃N:Nat,N=min n.toNat l.length:=⟨_,rfl⟩
 have hNl:N≤l.length:=by omega
 have hNi:max (0:Int) (min n (l.length:Int))=(N:Int):=by omega
 have HN:=Lib.hid hN
 obtain ⟨v,v1,v2,v3⟩:=hp.p0
 obtain ⟨A,cc,hv⟩:=own_form v3
 subst hv
 have f0:=h.f0
 have f1:=h.f1
 have f2:=h.f2
 have p1:=hp.p1
 have H0:=Lib.hid h
 have HP:=Lib.hid hp
 have HL:=Lib.hid hl
 have HD0:=Lib.hid (And.intro h0 hD)
 obtain ⟨es,clk,hb⟩:∃es clk,w.heap[Ms]?=some (.map es clk):=by
  obtain ⟨clk,born,A,c,hb, -⟩:=hp.ms
  exact ⟨_,clk,hb⟩
 have HB:=Lib.hid hb
 have hcap:=own_capV' v3
 have HR:=Lib.hid (And.intro v2 v3)
 have lF:=h.lf
 have HZF:=Lib.hid zF
 clear h hp hl h0 hD hb v2 v3 hN
 obtain ⟨DD,hDD⟩:∃DD,DD=crashL (l.map chgP) n.toNat m.toNat D0:=⟨_,rfl⟩
 rw[←hDD]
 have HDD:=Lib.hid hDD
 clear hDD
 go_enter Tryz.func63,Tryz.ntmps63
 go_upto_region 3 with (fail)
 have g1f:Gr w (w.alloc (.map es clk)):=Gr.alloc (Gr.refl w) _
 obtain ⟨w1,hw1⟩:∃w1,w1=w.alloc (.map es clk):=⟨_,rfl⟩
 rw[←hw1] at g1f
 have zF1:=(Below.frozen g1f (p:=⟨F,2,none⟩) lF).trans zF
 have f21:=(Below.cell g1f (p:=⟨F,2,none⟩) lF).trans f2
 have hM1:w.heap.size<w1.heap.size:=by rw[hw1];simp
 have hbM:w1.heap[w.heap.size]?=some (.map es clk):=by rw[hw1];exact Array.getElem?_push_size
 have hrm:=H0.out.remap HP.out g1f (Nat.le_refl _) hM1 hbM HB.out
 have HRM:=Lib.hid hrm
 have HMC:Hid (Calls Tryz.prog 71 #[.map (some Ms)] w fun e w'=>e= .returned (.map (some w.heap.size))∧w'=w1):=Lib.hid (by rw[hw1];exact mapclone_any Ms es clk w HB.out)
 clear hrm hbM hw1
 go_upto_region 4 with (go_at_call 71;refine HMC.out.mono ?_;rintro e w9 ⟨rfl,rfl⟩)
 have hW3:=Lib.hid (And.intro HRM.out.1 HRM.out.2)
 obtain ⟨Mn,hMn⟩:∃Mn,Mn=w.heap.size:=⟨_,rfl⟩
 rw[←hMn] at hW3 ⊢
 obtain ⟨W3,hW3e⟩:∃W3,W3=w9.setCell ⟨F,2,none⟩ (.map (some Mn)):=⟨_,rfl⟩
 rw[←hW3e] at hW3 ⊢
 have HMN:=Lib.hid hMn
 clear hW3e hMn HRM HMC g1f zF1 f21 hM1 zF f0 f1 f2 p1 v1
 rcases hcap with ⟨hc1,hc2,⟨hA,hl0⟩|⟨g,hA⟩⟩
 ·
  subst hA
  have hl:l=[]:=List.eq_nil_of_length_eq_zero hl0
  have hN0:N=0:=by omega
  subst hl
  subst hN0
  have hfin:DD=D0:=HDD.out
  subst hfin
  clear hl0 HR HL hNl
  simp only[List.length_nil] at hNi hc1 hll hW3 ⊢
  have hNi':max (0:Int) (min n 0)=0:=hNi
  clear hNi
  go_wp2
  go_loopw [39] (fun i wr=>i= .int .i64 0∧wr=W3) (fun _ _=>0)
  case atStart=>exact ⟨rfl,rfl⟩
  case round=>
   obtain ⟨rfl,rfl⟩:=hrel
   go_wp2_with (go_at_call 33;refine (sync_any _ hW3.out.1).mono ?_;rintro e w5 ⟨rfl,hf5,hk5⟩;have H5:=Lib.hid (And.intro hf5 hk5);clear hf5 hk5)
   go_end0
   exact ⟨rfl,Mn,by rw[HMN.out];exact Nat.le_refl _,H5.out.1,(hW3.out.2.mono (fun i _ e=> .inl e)).trans H5.out.2 (fun i _ e=> .inr e)⟩
 ·
  obtain ⟨ad,hAd⟩:∃ad:Addr,ad=⟨g,0,none⟩:=⟨_,rfl⟩
  rw[←hAd] at hA
  subst hA
  have hRg:R=some g:=by rw[←HR.out.1,hAd];rfl
  have hgF:g≠F:=(H0.out.rr g hRg).1
  have hgl:g<w.heap.size:=(HR.out.2.lt g (by rw[HR.out.1];exact hRg)).2
  have hadb:ad.block=g:=by rw[hAd]
  have hrow:∀q (hq:q<l.length),w.cell? (ad.add (q*4))=some (.int .i64 1)∧w.cell? ⟨(ad.add (q*4)).block,(ad.add (q*4)).off+1,none⟩=some (.string nmA)∧w.cell? ⟨(ad.add (q*4)).block,(ad.add (q*4)).off+2,none⟩=some (.int .i64 l[q].off)∧w.cell? ⟨(ad.add (q*4)).block,(ad.add (q*4)).off+3,none⟩=some (.slice (some ⟨l[q].g,0,none⟩) l[q].dat.length l[q].d):=fun q hq=>by
   obtain ⟨ad2,e2, -,hcl⟩:=(Rd.own HR.out.2).2 (by omega)
   injection e2 with e2
   subst e2
   have c:=fun i (hi:i<4)=>hcl (q*4+i)
   refine ⟨c 0 (by decide) _ (by rw[chgC_at l q hq 0 (by decide)];rfl),?_,?_,?_⟩
   ·
    rw[←add_next ad (q*4) 0];exact c 1 (by decide) _ (by rw[chgC_at l q hq 1 (by decide)];rfl)
   ·
    rw[←add_next ad (q*4) 1];exact c 2 (by decide) _ (by rw[chgC_at l q hq 2 (by decide)];rfl)
   ·
    rw[←add_next ad (q*4) 2];exact c 3 (by decide) _ (by rw[chgC_at l q hq 3 (by decide)];rfl)
  have HROW:Hid (∀(S:Nat→Prop) W q (hq:q<l.length),Kp S w W→¬S g→W.cell? (ad.add (q*4))=some (.int .i64 1)∧W.cell? ⟨(ad.add (q*4)).block,(ad.add (q*4)).off+1,none⟩=some (.string nmA)∧W.cell? ⟨(ad.add (q*4)).block,(ad.add (q*4)).off+2,none⟩=some (.int .i64 l[q].off)∧W.cell? ⟨(ad.add (q*4)).block,(ad.add (q*4)).off+3,none⟩=some (.slice (some ⟨l[q].g,0,none⟩) l[q].dat.length l[q].d)):=Lib.hid (fun S W q hq k hS=>by
   obtain ⟨a0,a1,a2,a3⟩:=hrow q hq
   have hb:(ad.add (q*4)).block=g:=by rw[adB,hadb]
   exact ⟨(k.cell (a:=ad.add (q*4)) (by rw[hb];exact hgl) (by rw[hb];exact hS)).trans a0,(k.cell (a:=⟨(ad.add (q*4)).block,(ad.add (q*4)).off+1,none⟩) (by simp only[hb];exact hgl) (by simp only[hb];exact hS)).trans a1,(k.cell (a:=⟨(ad.add (q*4)).block,(ad.add (q*4)).off+2,none⟩) (by simp only[hb];exact hgl) (by simp only[hb];exact hS)).trans a2,(k.cell (a:=⟨(ad.add (q*4)).block,(ad.add (q*4)).off+3,none⟩) (by simp only[hb];exact hgl) (by simp only[hb];exact hS)).trans a3⟩)
  have HAD:=Lib.hid (And.intro hadb (And.intro hgF hgl))
  have HNG:Hid (¬(g=F∨g=Mn)):=Lib.hid (fun e=>by
   rcases e with e|e
   ·
    exact hgF e
   ·
    have:=HMN.out;omega)
  have HFIN:Hid (∀W W5,Kp (fun k=>k=F∨k=Mn) w W→Kp (fun k=>k=P) W W5→Kp (fun k=>k=F∨k=P) w W5):=Lib.hid (fun W W5 k1 k2=>by
   have k3:Kp (fun k=>k=F) w W:=⟨k1.os,k1.tape,k1.output,k1.size,fun k hk hn=>k1.block k hk (fun e=>by
    rcases e with e|e
    ·
     exact hn e
    ·
     have:=HMN.out;omega)⟩
   exact (k3.mono (fun _ _ e=> .inl e)).trans k2 (fun _ _ e=> .inr e))
  clear hRg hgF hgl hadb hrow hAd HR
  have hNl':(N:Int)≤(l.length:Int):=by omega
  have hNc:(N:Int)≤(cc:Int):=by omega
  go_wp2
  go_loopw [39] (fun i wr=>∃q:Nat,q≤N∧i= .int .i64 q∧FsM (fun _=>False) wr F P Mn R room l.length (some (foldP D0 l q))∧Kp (fun k=>k=F∨k=Mn) w wr) (fun i _=>N-(intOf i).toNat)
  case atStart=>exact ⟨0,Nat.zero_le _,rfl,hW3.out.1,hW3.out.2.mono (fun i _ e=> .inl e)⟩
  case round=>
   obtain ⟨q,hq,rfl,hfs,hkp⟩:=hrel
   have HI:=Lib.hid (And.intro hfs hkp)
   by_cases hlt:q<N
   ·
    have hlti:(q:Int)<(N:Int):=by omega
    have hql:q<l.length:=by omega
    obtain ⟨a0,a1,a2,a3⟩:=HROW.out _ wr q hql hkp HNG.out
    obtain ⟨r1,r2,r3,r4, -, -, -⟩:=HP.out.rw l[q] (List.getElem_mem _)
    have hof:=HL.out l[q] (List.getElem_mem _)
    have hfl:=foldP_len HL.out q (by omega)
    obtain ⟨V,hV⟩:∃V,V=wr.alloc (.cells #[.int .i64 1, .string nmA, .int .i64 l[q].off, .slice (some ⟨l[q].g,0,none⟩) l[q].dat.length l[q].d] 115):=⟨_,rfl⟩
    have gV:Gr wr V:=by rw[hV];exact Gr.alloc (Gr.refl wr) _
    have hrb:Rb V (some ⟨l[q].g,0,none⟩) l[q].dat:=(hkp.rd r2 (fun _ a e=>by
     injection e with e
     subst e
     intro e
     rcases e with e|e
     ·
      exact r4 e
     ·
      simp only at e;have:=HMN.out;omega)).gr gV
    have hap:=applies_write (foldP D0 l q) l[q].dat l[q].off l[q].g l[q].d (by rw[hfl];exact HD0.out.2) (by rw[hfl];exact HD0.out.1) (by rw[hfl];exact hof) V (hfs.gr gV) hrb
    rw[←foldP_succ hql] at hap
    have HAP:=Lib.hid hap
    have HV:=Lib.hid hV
    have HGV:=Lib.hid gV
    obtain ⟨cq,hcq⟩:∃cq,cq=l[q]:=⟨_,rfl⟩
    rw[←hcq] at a2 a3 HAP HV
    clear hap hV gV hrb hof hfl r1 r2 r3 r4 hfs hkp hcq
    go_upto_region 7 with (fail)
    rw[←HV.out]
    have hz:wr.heap.size<V.heap.size:=by rw[HV.out];simp
    have b0:V.cell? ⟨wr.heap.size,0,none⟩=some (.int .i64 1):=by rw[HV.out];go_simp
    have b1:V.cell? ⟨wr.heap.size,1,none⟩=some (.string nmA):=by rw[HV.out];go_simp
    have b2:V.cell? ⟨wr.heap.size,2,none⟩=some (.int .i64 cq.off):=by rw[HV.out];go_simp
    have b3:V.cell? ⟨wr.heap.size,3,none⟩=some (.slice (some ⟨cq.g,0,none⟩) cq.dat.length cq.d):=by rw[HV.out];go_simp
    clear HV a0 a1 a2 a3
    go_wp2_with (go_at_call 83;refine HAP.out.mono ?_;rintro e w5 ⟨rfl,hf5,hk5⟩;have H5:=Lib.hid (And.intro hf5 hk5);clear hf5 hk5)
    go_roundw
    case rel=>exact ⟨q+1,by omega,by go_num,H5.out.1,(HI.out.2.trans (Kp.of_gr (fun _=>False) HGV.out) (fun _ _ e=>e.elim)).trans H5.out.2 (fun _ _ e=> .inr e)⟩
    case measure=>simp[intOf];omega
   ·
    have hqe:q=N:=by omega
    subst hqe
    clear hlt hq
    by_cases hpt:q<l.length
    ·
     have hpti:(q:Int)<(l.length:Int):=by omega
     obtain ⟨a0,a1,a2,a3⟩:=HROW.out _ wr q hpt hkp HNG.out
     obtain ⟨r1,r2,r3,r4, -, -, -⟩:=HP.out.rw l[q] (List.getElem_mem _)
     have hof:=HL.out l[q] (List.getElem_mem _)
     have hfl:=foldP_len HL.out q (by omega)
     obtain ⟨mm,hmm⟩:∃mm:Nat,mm=min m.toNat l[q].dat.length:=⟨_,rfl⟩
     have hmi:max (0:Int) (min m (l[q].dat.length:Int))=(mm:Int):=by omega
     have hmc:(mm:Int)≤(l[q].d:Int):=by omega
     have htl:(l[q].dat.take m.toNat).length=mm:=by rw[List.length_take,hmm]
     obtain ⟨V,hV⟩:∃V,V=wr.alloc (.cells #[.int .i64 1, .string nmA, .int .i64 l[q].off, .slice (some ⟨l[q].g,0,none⟩) mm l[q].d] 115):=⟨_,rfl⟩
     have gV:Gr wr V:=by rw[hV];exact Gr.alloc (Gr.refl wr) _
     have hrb:Rb V (some ⟨l[q].g,0,none⟩) (l[q].dat.take m.toNat):=take_rb ((hkp.rd r2 (fun _ a e=>by
      injection e with e
      subst e
      intro e
      rcases e with e|e
      ·
       exact r4 e
      ·
       simp only at e;have:=HMN.out;omega)).gr gV) _
     have hap:=applies_write (foldP D0 l q) (l[q].dat.take m.toNat) l[q].off l[q].g l[q].d (by rw[hfl];exact HD0.out.2) (by rw[hfl];exact HD0.out.1) (by rw[hfl,htl];omega) V (hfs.gr gV) hrb
     rw[htl,←crash_part l q m.toNat D0 hpt] at hap
     have HFN:Hid (DD=crashL (l.map chgP) q m.toNat D0):=Lib.hid (by rw[HDD.out];congr 1;have:=HN.out;omega)
     have HAP:=Lib.hid hap
     have HV:=Lib.hid hV
     have HGV:=Lib.hid gV
     have hdi:(l[q].dat.length:Int)≤1073741824:=by have:=HD0.out.2;omega
     obtain ⟨cq,hcq⟩:∃cq,cq=l[q]:=⟨_,rfl⟩
     rw[←hcq] at a2 a3 HAP HV hmi hmc hdi r1
     have r1i:(cq.dat.length:Int)≤(cq.d:Int):=by omega
     clear hap hV gV hrb hof hfl r1 r2 r3 r4 hfs hkp hcq hmm htl
     go_upto_region 12 with (fail)
     rw[←HV.out]
     have hz:wr.heap.size<V.heap.size:=by rw[HV.out];simp
     have b0:V.cell? ⟨wr.heap.size,0,none⟩=some (.int .i64 1):=by rw[HV.out];go_simp
     have b1:V.cell? ⟨wr.heap.size,1,none⟩=some (.string nmA):=by rw[HV.out];go_simp
     have b2:V.cell? ⟨wr.heap.size,2,none⟩=some (.int .i64 cq.off):=by rw[HV.out];go_simp
     have b3:V.cell? ⟨wr.heap.size,3,none⟩=some (.slice (some ⟨cq.g,0,none⟩) mm cq.d):=by rw[HV.out];go_simp
     clear HV a0 a1 a2 a3
     go_wp2_with (first|(go_at_call 83;refine HAP.out.mono ?_;rintro e w5 ⟨rfl,hf5,hk5⟩;have H5:=Lib.hid (And.intro hf5 hk5);clear hf5 hk5)|(go_at_call 33;refine (sync_any _ H5.out.1).mono ?_;rintro e w6 ⟨rfl,hf6,hk6⟩;have H6:=Lib.hid (And.intro hf6 hk6);clear hf6 hk6))
     go_end0
     exact ⟨rfl,Mn,by rw[HMN.out];exact Nat.le_refl _,by rw[HFN.out];exact H6.out.1,HFIN.out _ _ ((HI.out.2.trans (Kp.of_gr (fun _=>False) HGV.out) (fun _ _ e=>e.elim)).trans H5.out.2 (fun _ _ e=> .inr e)) H6.out.2⟩
    ·
     have hpti:¬(q:Int)<(l.length:Int):=by omega
     have hqe2:q=l.length:=by omega
     have HFN:Hid (DD=foldP D0 l q):=Lib.hid (by rw[HDD.out];rw[hqe2];exact crash_full l _ _ _ (by have:=HN.out;omega))
     clear hfs hkp hqe2
     go_wp2_with (go_at_call 33;refine (sync_any _ HI.out.1).mono ?_;rintro e w5 ⟨rfl,hf5,hk5⟩;have H5:=Lib.hid (And.intro hf5 hk5);clear hf5 hk5)
     go_end0
     exact ⟨rfl,Mn,by rw[HMN.out];exact Nat.le_refl _,by rw[HFN.out];exact H5.out.1,HFIN.out _ _ HI.out.2 H5.out.2⟩
end
open Go.RowKit
theorem list12 {s:List UInt8} (h:s.length=12):∃a0 a1 a2 a3 a4 a5 a6 a7 a8 a9 a10 a11,s=[a0,a1,a2,a3,a4,a5,a6,a7,a8,a9,a10,a11]:=by
 match s,h with
 | [a0,a1,a2,a3,a4,a5,a6,a7,a8,a9,a10,a11],_=>exact ⟨a0,a1,a2,a3,a4,a5,a6,a7,a8,a9,a10,a11,rfl⟩
theorem decT_four (a0 a1 a2 a3:UInt8) (r:List UInt8):decT (a0::a1::a2::a3::r)=(((((0*256+a0.toNat)*256+a1.toNat)*256+a2.toNat)*256+a3.toNat:Nat):Int):=rfl
theorem decN_four (a0 a1 a2 a3:UInt8) (r:List UInt8):decN (a0::a1::a2::a3::r)=i64 (ofB r):=rfl
theorem z0:(0:UInt8).toNat=0:=rfl
theorem wr_back {s:List UInt8} (h:s.length=12):beB (at4 (decT s)) 4=s.take 4∧beB (u64 (decN s)) 8=s.drop 4:=by
 have l4:(s.take 4).length=4:=by rw[List.length_take,h];rfl
 have l8:(s.drop 4).length=8:=by rw[List.length_drop,h]
 have b4:=ofB_lt (s.take 4)
 have b8:=ofB_lt (s.drop 4)
 rw[l4] at b4
 rw[l8] at b8
 have e4:=beB_ofB (s.take 4)
 have e8:=beB_ofB (s.drop 4)
 rw[l4] at e4
 rw[l8] at e8
 refine ⟨?_,?_⟩
 ·
  have:at4 (decT s)=ofB (s.take 4):=by unfold at4 decT;omega
  rw[this,e4]
 ·
  have:u64 (decN s)=ofB (s.drop 4):=by
   unfold u64 decN i64
   split<;>omega
  rw[this,e8]
theorem decN_range {s:List UInt8} (h:s.length=12): -9223372036854775808≤decN s∧decN s≤9223372036854775807:=by
 have l8:(s.drop 4).length=8:=by rw[List.length_drop,h]
 have b8:=ofB_lt (s.drop 4)
 rw[l8] at b8
 unfold decN i64
 split<;>omega
theorem decT_nn (s:List UInt8):0≤decT s:=by unfold decT;omega
theorem tn_point {s1 s2 z:List UInt8} (h1:s1.length=12) (h2:s2.length=12) (hz:z.length=12) (h:Tn s1 s2 z):(decT z=decT s1∧decN z=decN s1)∨(decT z=decT s2∧decN z=decN s2)∨decT z=0∨decT z<decT s1∨decT z<decT s2:=by
 rcases h with h|h|⟨m,h⟩|h|⟨m,h⟩
 ·
  subst h;exact .inl ⟨rfl,rfl⟩
 ·
  subst h;exact .inr (.inl ⟨rfl,rfl⟩)
 ·
  obtain ⟨a0,a1,a2,a3,a4,a5,a6,a7,a8,a9,a10,a11,rfl⟩:=list12 h1
  subst h
  match m with
  | 0=>
   left
   exact ⟨rfl,rfl⟩
  | 1=>
   have e:putB [a0,a1,a2,a3,a4,a5,a6,a7,a8,a9,a10,a11] 0 (z4.take 1)=[0,a1,a2,a3,a4,a5,a6,a7,a8,a9,a10,a11]:=rfl
   rw[e,decT_four,decT_four,decN_four,decN_four,z0]
   by_cases e0:a0.toNat=0
   ·
    exact .inl ⟨by rw[e0],rfl⟩
   ·
    exact .inr (.inr (.inr (.inl (by omega))))
  | 2=>
   have e:putB [a0,a1,a2,a3,a4,a5,a6,a7,a8,a9,a10,a11] 0 (z4.take 2)=[0,0,a2,a3,a4,a5,a6,a7,a8,a9,a10,a11]:=rfl
   rw[e,decT_four,decT_four,decN_four,decN_four,z0]
   by_cases e0:a0.toNat=0∧a1.toNat=0
   ·
    exact .inl ⟨by rw[e0.1,e0.2],rfl⟩
   ·
    exact .inr (.inr (.inr (.inl (by omega))))
  | 3=>
   have e:putB [a0,a1,a2,a3,a4,a5,a6,a7,a8,a9,a10,a11] 0 (z4.take 3)=[0,0,0,a3,a4,a5,a6,a7,a8,a9,a10,a11]:=rfl
   rw[e,decT_four,decT_four,decN_four,decN_four,z0]
   by_cases e0:a0.toNat=0∧a1.toNat=0∧a2.toNat=0
   ·
    exact .inl ⟨by rw[e0.1,e0.2.1,e0.2.2],rfl⟩
   ·
    exact .inr (.inr (.inr (.inl (by omega))))
  | m+4=>
   have e:putB [a0,a1,a2,a3,a4,a5,a6,a7,a8,a9,a10,a11] 0 (z4.take (m+4))=[0,0,0,0,a4,a5,a6,a7,a8,a9,a10,a11]:=by
    rw[show z4.take (m+4)=z4 from List.take_of_length_le (by show 4≤m+4;omega)]
    rfl
   rw[e]
   exact .inr (.inr (.inl rfl))
 ·
  have e:decT z=decT z4:=by
   unfold decT
   rw[h]
   rfl
  rw[e]
  exact .inr (.inr (.inl rfl))
 ·
  obtain ⟨a0,a1,a2,a3,a4,a5,a6,a7,a8,a9,a10,a11,rfl⟩:=list12 h2
  subst h
  match m with
  | 0=>exact .inr (.inr (.inl rfl))
  | 1=>
   have e:putB (z4++[a0,a1,a2,a3,a4,a5,a6,a7,a8,a9,a10,a11].drop 4) 0 (([a0,a1,a2,a3,a4,a5,a6,a7,a8,a9,a10,a11].take 4).take 1)=[a0,0,0,0,a4,a5,a6,a7,a8,a9,a10,a11]:=rfl
   rw[e,decT_four,decT_four,decN_four,decN_four,z0]
   by_cases e0:a1.toNat=0∧a2.toNat=0∧a3.toNat=0
   ·
    exact .inr (.inl ⟨by rw[e0.1,e0.2.1,e0.2.2],rfl⟩)
   ·
    exact .inr (.inr (.inr (.inr (by omega))))
  | 2=>
   have e:putB (z4++[a0,a1,a2,a3,a4,a5,a6,a7,a8,a9,a10,a11].drop 4) 0 (([a0,a1,a2,a3,a4,a5,a6,a7,a8,a9,a10,a11].take 4).take 2)=[a0,a1,0,0,a4,a5,a6,a7,a8,a9,a10,a11]:=rfl
   rw[e,decT_four,decT_four,decN_four,decN_four,z0]
   by_cases e0:a2.toNat=0∧a3.toNat=0
   ·
    exact .inr (.inl ⟨by rw[e0.1,e0.2],rfl⟩)
   ·
    exact .inr (.inr (.inr (.inr (by omega))))
  | 3=>
   have e:putB (z4++[a0,a1,a2,a3,a4,a5,a6,a7,a8,a9,a10,a11].drop 4) 0 (([a0,a1,a2,a3,a4,a5,a6,a7,a8,a9,a10,a11].take 4).take 3)=[a0,a1,a2,0,a4,a5,a6,a7,a8,a9,a10,a11]:=rfl
   rw[e,decT_four,decT_four,decN_four,decN_four,z0]
   by_cases e0:a3.toNat=0
   ·
    exact .inr (.inl ⟨by rw[e0],rfl⟩)
   ·
    exact .inr (.inr (.inr (.inr (by omega))))
  | m+4=>
   have e:putB (z4++[a0,a1,a2,a3,a4,a5,a6,a7,a8,a9,a10,a11].drop 4) 0 (([a0,a1,a2,a3,a4,a5,a6,a7,a8,a9,a10,a11].take 4).take (m+4))=[a0,a1,a2,a3,a4,a5,a6,a7,a8,a9,a10,a11]:=by
    rw[List.take_of_length_le (show ([a0,a1,a2,a3,a4,a5,a6,a7,a8,a9,a10,a11].take 4).length≤m+4 by show 4≤m+4;omega)]
    rfl
   rw[e]
   exact .inr (.inl ⟨rfl,rfl⟩)
def InvS (m:Arcs) (now:Int) (D:List UInt8):Prop:=
 D.length=sizeS m∧∀i,i<m.length→∀k,k<cntS m i→decT (slotS D (offS m i+12*k))=0∨(1≤decT (slotS D (offS m i+12*k))∧decT (slotS D (offS m i+12*k))≤now∧decT (slotS D (offS m i+12*k))%(stpS m i:Nat)=0∧placeS (stpS m i) (cntS m i) (decT (slotS D (offS m i+12*k)))=k)
theorem pos_in {m:Arcs} {i k:Nat} (hi:i<m.length) (hk:k<cntS m i):16+12*m.length≤offS m i+12*k∧offS m i+12*k+12≤offS m (i+1)∧offS m (i+1)≤sizeS m:=by
 have h2:=offS_succ hi
 have h3:=offS_le (m:=m) (i:=i+1) (by omega)
 rw[cntS_at hi] at hk
 refine ⟨by unfold offS;omega,by omega,h3⟩
theorem pos_apart {m:Arcs} {i i' k k':Nat} (hi:i<m.length) (hi':i'<m.length) (hk:k<cntS m i) (hk':k'<cntS m i') (h:¬(i'=i∧k'=k)):offS m i'+12*k'+12≤offS m i+12*k∨offS m i+12*k+12≤offS m i'+12*k':=by
 have p1:=pos_in hi hk
 have p2:=pos_in hi' hk'
 rcases Nat.lt_trichotomy i i' with hlt|heq|hgt
 ·
  right
  have:=offS_mono (m:=m) (i:=i+1) (j:=i') hlt (Nat.le_of_lt hi')
  omega
 ·
  subst heq
  have:k'≠k:=fun e=>h ⟨rfl,e⟩
  omega
 ·
  left
  have:=offS_mono (m:=m) (i:=i'+1) (j:=i) hgt (Nat.le_of_lt hi)
  omega
theorem InvS.new {m:Arcs} (ag xf:Nat) (now:Int):InvS m now (newS ag xf m):=by
 refine ⟨(newS_ok ag xf m).1,fun i hi k hk=> .inl ?_⟩
 obtain ⟨p1,p2,p3⟩:=pos_in hi hk
 have hz:slotS (newS ag xf m) (offS m i+12*k)=List.replicate 12 0:=by
  apply List.ext_getElem?
  intro j
  rw[slotS_at]
  by_cases hj:j<12
  ·
   rw[if_pos hj]
   unfold newS
   rw[List.getElem?_append_right (by rw[hdrS_len];omega),hdrS_len,List.getElem?_replicate,if_pos (by omega),List.getElem?_replicate,if_pos hj]
  ·
   rw[if_neg hj,List.getElem?_eq_none (by simp;omega)]
 rw[hz]
 rfl
theorem InvS.lay {m:Arcs} {now:Int} {D:List UInt8} (hF:MayF m) (h:InvS m now D) {i:Nat} (hi:i<m.length) {t:Int} (n:Int) (h1:1≤t) (h2:t≤now) (h3:t%(stpS m i:Nat)=0) (hn:now≤4294967295):InvS m now (layS m D i t n):=by
 refine ⟨layS_len hF h.1 hi t n,fun i' hi' k hk=>?_⟩
 have hc:=hF.c1 i hi
 have hp:pS m i t<cntS m i:=placeS_nat hc.1 t
 have hin:=pos_in hi hp
 by_cases e:i'=i∧k=pS m i t
 ·
  obtain ⟨rfl,rfl⟩:=e
  right
  unfold layS
  rw[atS_eq,slot_same (encP_len t n) (by rw[h.1];omega),decT_enc,show ((at4 t:Nat):Int)=t by unfold at4;omega]
  refine ⟨h1,h2,h3,?_⟩
  have:=placeS_lt (t:=t) (step:=(stpS m i':Int)) (count:=(cntS m i':Int)) (by omega)
  unfold pS
  omega
 ·
  have hap:=pos_apart hi hi' hp hk e
  unfold layS
  rw[atS_eq,slot_other (encP_len t n) (by rw[h.1];omega) hap]
  exact h.2 i' hi' k hk
theorem align_modT {t s:Int} (hs:1≤s) (ht:0≤t):alignS t s%s=0:=by
 rw[alignS_of hs ht]
 have e:t-t%s=s*(t/s):=by
  have:=Int.emod_add_mul_ediv t s
  omega
 rw[e,Int.mul_emod_right]
theorem align_leT {t s:Int} (hs:1≤s) (ht:0≤t):alignS t s≤t:=by
 rw[alignS_of hs ht]
 have:=Int.emod_nonneg t (b:=s) (by omega)
 omega
theorem InvS.up {m:Arcs} (hF:MayF m) {a x t now:Int} (h1:1≤t) (h2:t≤now) (hn:now≤4294967295):∀(k i:Nat) (D:List UInt8),i+k=m.length→InvS m now D→InvS m now (upS a x m t i k D)
 | 0,_,D,_,h=>h
 | k+1,i,D,hik,h=>by
  rw[upS]
  cases hg:gathS a x m D i t with
  | none=>exact h
  | some D'=>
   have hs:=hF.s1 i (by omega)
   refine InvS.up hF h1 h2 hn k (i+1) D' (by omega) ?_
   unfold gathS at hg
   split at hg
   ·
    rename_i hc
    injection hg with hg
    rw[←hg]
    have ha:=align_leT (t:=t) (s:=(stpS m i:Int)) (by omega) (by omega)
    exact h.lay hF (by omega) _ hc.2 (by omega) (align_modT (by omega) (by omega)) hn
   ·
    cases hg
theorem InvS.upd {m:Arcs} (hF:MayF m) {a x now:Int} (hn:now≤4294967295):∀(l:List (Int×Int)) (s:Nat×List UInt8),InvS m now s.2→InvS m now (updS a x m now l s).2
 | [],_,h=>h
 | p::r,s,h=>by
  rw[updS]
  cases hl:laysS a x m s.2 p.1 p.2 now with
  | none=>exact InvS.upd hF hn r s h
  | some D=>
   refine InvS.upd hF hn r _ ?_
   unfold laysS at hl
   split at hl
   ·
    cases hl
   ·
    rename_i h1
    split at hl
    ·
     cases hl
    ·
     rename_i h2
     split at hl
     ·
      cases hl
     ·
      rename_i h3
      injection hl with hl
      have hfi:firstS m p.1 now<m.length:=by
       have:=List.findIdx_le_length (p:=fun a=>reachB a p.1 now) (xs:=m)
       unfold firstS at h2 ⊢
       omega
      have hs:=hF.s1 _ hfi
      have h1':¬p.1<1∧¬now<p.1:=⟨fun e=>h1 (.inl e),fun e=>h1 (.inr (.inl e))⟩
      have ha:=align_leT (t:=p.1) (s:=(stpS m (firstS m p.1 now):Int)) (by omega) (by omega)
      show InvS m now D
      rw[←hl]
      exact InvS.up hF (by omega) (by omega) hn _ _ _ (by omega) (h.lay hF hfi _ (by omega) (by omega) (align_modT (by omega) (by omega)) hn)
theorem mod_gap {a a1 c:Int} (hc:1≤c) (h:a%c=a1%c) (hlt:a<a1):c≤a1-a:=by
 have h0:(a1-a)%c=0:=Int.emod_eq_emod_iff_emod_sub_eq_zero.1 h.symm
 exact Int.le_of_dvd (by omega) (Int.dvd_of_emod_eq_zero h0)
theorem too_old {s c t t1 now k:Int} (hs:1≤s) (hc:1≤c) (h0:0≤t) (hlt:t<t1) (h1:t1%s=0) (h2:placeS s c t1=k) (h3:t1≤now) (r1:t%s=0) (r2:placeS s c t=k) (r3:now-t<s*c):False:=by
 rw[placeS_of hs hc (by omega)] at h2 r2
 have e1:t1=s*(t1/s):=by have:=Int.emod_add_mul_ediv t1 s;omega
 have e:t=s*(t/s):=by have:=Int.emod_add_mul_ediv t s;omega
 have hd:t/s<t1/s:=by
  rcases Int.lt_or_le (t/s) (t1/s) with h|h
  ·
   exact h
  ·
   have:=Int.mul_le_mul_of_nonneg_left h (by omega:0≤s)
   omega
 have hg:=mod_gap hc (r2.trans h2.symm) hd
 have hm:=Int.mul_le_mul_of_nonneg_left hg (by omega:0≤s)
 rw[Int.mul_sub] at hm
 omega
theorem torn_slot {m:Arcs} {now:Int} {D1 D2 D:List UInt8} (hF:MayF m) (h1:InvS m now D1) (h2:InvS m now D2) (hD:D.length=sizeS m) {i k:Nat} (hi:i<m.length) (hk:k<cntS m i) (hz:Tn (slotS D1 (offS m i+12*k)) (slotS D2 (offS m i+12*k)) (slotS D (offS m i+12*k))) :
  (decT (slotS D (offS m i+12*k))=decT (slotS D1 (offS m i+12*k))∧decN (slotS D (offS m i+12*k))=decN (slotS D1 (offS m i+12*k)))∨(decT (slotS D (offS m i+12*k))=decT (slotS D2 (offS m i+12*k))∧decN (slotS D (offS m i+12*k))=decN (slotS D2 (offS m i+12*k)))
  ∨ ¬(0<decT (slotS D (offS m i+12*k))∧decT (slotS D (offS m i+12*k))%(stpS m i:Nat)=0∧placeS (stpS m i) (cntS m i) (decT (slotS D (offS m i+12*k)))=k∧decT (slotS D (offS m i+12*k))≤now∧now-decT (slotS D (offS m i+12*k))<(stpS m i:Int)*(cntS m i:Int)):=by
 obtain ⟨p1,p2,p3⟩:=pos_in hi hk
 have hs:=hF.s1 i hi
 have hc:=hF.c1 i hi
 have i1:=h1.2 i hi k hk
 have i2:=h2.2 i hi k hk
 have hp:=tn_point (slot_len (by rw[h1.1];omega)) (slot_len (by rw[h2.1];omega)) (slot_len (by rw[hD];omega)) hz
 generalize slotS D (offS m i+12*k)=z at hp ⊢
 generalize slotS D1 (offS m i+12*k)=s1 at hp i1 ⊢
 generalize slotS D2 (offS m i+12*k)=s2 at hp i2 ⊢
 have z0:=decT_nn z
 rcases hp with h|h|h|h|h
 ·
  exact .inl h
 ·
  exact .inr (.inl h)
 ·
  exact .inr (.inr (fun r=>by omega))
 ·
  refine .inr (.inr (fun r=>?_))
  rcases i1 with e|e
  ·
   omega
  ·
   exact too_old (by omega) (by omega) z0 h e.2.2.1 e.2.2.2 e.2.1 r.2.1 r.2.2.1 r.2.2.2.2
 ·
  refine .inr (.inr (fun r=>?_))
  rcases i2 with e|e
  ·
   omega
  ·
   exact too_old (by omega) (by omega) z0 h e.2.2.1 e.2.2.2 e.2.1 r.2.1 r.2.2.1 r.2.2.2.2
theorem HdOk.torn {ag xf:Nat} {m:Arcs} {D1 D:List UInt8} (h:HdOk ag xf m D1) (hl:D.length=D1.length) (ht:D.take (16+12*m.length)=D1.take (16+12*m.length)):HdOk ag xf m D:=by
 obtain ⟨h1,r,hr⟩:=h
 refine ⟨by rw[hl];exact h1,D.drop (16+12*m.length),?_⟩
 conv=>lhs;rw[←List.take_append_drop (16+12*m.length) D]
 congr 1
 rw[ht,hr]
 exact List.take_left' (hdrS_len ag xf m)
end Go.Proofs.YtoncapkmaeghfaaGreat
