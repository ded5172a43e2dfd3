import Derived.Test.YtoncapkmaeghfaaGreatRunWiAln
import Derived.Test.YtoncapkmaeghfaaGreatRunWiGat
import Derived.Test.YtoncapkmaeghfaaGreatRunWiMay
set_option linter.all false
set_option maxRecDepth 1000000
set_option maxHeartbeats 12800000
namespace Go.Proofs.YtoncapkmaeghfaaGreat
open Go.RowKit
def RetPs (Y:Nat→Prop) (B X:Nat) (R:Option Nat) (room:Int) (n ag xf:Nat) (A:Option Addr) (c:Nat) (m:Arcs) (D:List UInt8) (o:Option (List UInt8)) (w:World) (e:Ending) (w':World):Prop:=
 match o with
 | none=>e= .returned (.bool false)∧Gr w w'
 | some D'=>e= .returned (.bool true)∧∃(R':Option Nat) (n':Nat),n'≤n+3∧XfM Y w' B X R' room n' ag xf A c m D'∧Kp (Xch X R) w w'∧∀i,R'=some i→R=some i∨w.heap.size≤i
def Blk2 (p x y:Nat) (W:World):Prop:=p<W.heap.size∧W.cell? ⟨p,0,none⟩=some (.int .i64 (x:Nat))∧W.cell? ⟨p,1,none⟩=some (.int .i64 (y:Nat))∧W.frozen? ⟨p,0,none⟩=false∧W.frozen? ⟨p,1,none⟩=false
theorem Blk2.gr {p x y:Nat} {W W':World} (h:Blk2 p x y W) (g:Gr W W'):Blk2 p x y W':=
 ⟨Nat.lt_of_lt_of_le h.1 g.size,(Below.cell g (p:=⟨p,0,none⟩) h.1).trans h.2.1,(Below.cell g (p:=⟨p,1,none⟩) h.1).trans h.2.2.1,(Below.frozen g (p:=⟨p,0,none⟩) h.1).trans h.2.2.2.1,(Below.frozen g (p:=⟨p,1,none⟩) h.1).trans h.2.2.2.2⟩
theorem Blk2.new (W:World):Blk2 W.heap.size 0 0 (W.alloc (.cells #[.int .i64 0, .int .i64 0] 69)):=⟨by simp,by go_simp,by go_simp,by go_simp,by go_simp⟩
theorem Blk2.put {p x y:Nat} {W:World} (h:Blk2 p x y W) (x' y':Nat):Blk2 p x' y' ((W.setCell ⟨p,0,none⟩ (.int .i64 (x':Nat))).setCell ⟨p,1,none⟩ (.int .i64 (y':Nat))):=by
 obtain ⟨h0,h1,h2,h3,h4⟩:=h
 refine ⟨by simpa using h0,?_,?_,?_,?_⟩
 ·
  rw[cell_off _ (by decide)];exact World.cell?_setCell_same' _ _ _ (by rw[h1];rfl)
 ·
  exact World.cell?_setCell_same' _ _ _ (by rw[cell_off _ (by decide),h2];rfl)
 ·
  rw[World.frozen?_setCell,World.frozen?_setCell];exact h3
 ·
  rw[World.frozen?_setCell,World.frozen?_setCell];exact h4
theorem Blk2.other {p q x y:Nat} {W:World} (h:Blk2 q x y W) (hn:q≠p) {u v:Value}:Blk2 q x y ((W.setCell ⟨p,0,none⟩ u).setCell ⟨p,1,none⟩ v):=by
 obtain ⟨h0,h1,h2,h3,h4⟩:=h
 have k:Kp (fun k=>k=p) W ((W.setCell ⟨p,0,none⟩ u).setCell ⟨p,1,none⟩ v):=((Kp.refl (fun k=>k=p) W).set (p:=⟨p,0,none⟩) (.inl rfl) u).set (p:=⟨p,1,none⟩) (.inl rfl) v
 exact ⟨Nat.lt_of_lt_of_le h0 k.size,(k.cell (a:=⟨q,0,none⟩) h0 hn).trans h1,(k.cell (a:=⟨q,1,none⟩) h0 hn).trans h2,(k.frozen (a:=⟨q,0,none⟩) h0 hn).trans h3,(k.frozen (a:=⟨q,1,none⟩) h0 hn).trans h4⟩
def PsS (B ag xf:Nat) (A:Option Addr) (n c:Nat) (ad:Addr) (i S0 C0 S1 C1:Nat) (W:World):Prop:=
 B<W.heap.size∧(∀z,(ad.add z).block<W.heap.size)∧True∧W.cell? ⟨B,4,none⟩=some (.slice A n c)∧W.cell? (ad.add (i*2))=some (.int .i64 (S0:Nat))∧W.cell? ⟨(ad.add (i*2)).block,(ad.add (i*2)).off+1,none⟩=some (.int .i64 (C0:Nat))∧W.cell? (ad.add ((i+1)*2))=some (.int .i64 (S1:Nat))∧W.cell? ⟨(ad.add ((i+1)*2)).block,(ad.add ((i+1)*2)).off+1,none⟩=some (.int .i64 (C1:Nat))
theorem PsS.gr {B ag xf:Nat} {A:Option Addr} {n c:Nat} {ad:Addr} {i S0 C0 S1 C1:Nat} {W W':World} (h:PsS B ag xf A n c ad i S0 C0 S1 C1 W) (g:Gr W W'):PsS B ag xf A n c ad i S0 C0 S1 C1 W':=
 ⟨Nat.lt_of_lt_of_le h.1 g.size,fun z=>Nat.lt_of_lt_of_le (h.2.1 z) g.size,trivial,(Below.cell g (p:=⟨B,4,none⟩) h.1).trans h.2.2.2.1,(Below.cell g (p:=ad.add (i*2)) (h.2.1 _)).trans h.2.2.2.2.1,(Below.cell g (p:=⟨(ad.add (i*2)).block,(ad.add (i*2)).off+1,none⟩) (h.2.1 _)).trans h.2.2.2.2.2.1,(Below.cell g (p:=ad.add ((i+1)*2)) (h.2.1 _)).trans h.2.2.2.2.2.2.1,(Below.cell g (p:=⟨(ad.add ((i+1)*2)).block,(ad.add ((i+1)*2)).off+1,none⟩) (h.2.1 _)).trans h.2.2.2.2.2.2.2⟩
theorem putV_bound {k x:Int} {l:List Vl} (h:(putV k x l).ok=true): -4611686018427387904≤(putV k x l).n∧(putV k x l).n≤4611686018427387904:=by
 unfold putV at h ⊢
 cases e:enB x (kn l).length l.length
 ·
  rw[e] at h;cases h
 ·
  rw[e] at h
  simp only[cond_true] at h ⊢
  have hb:=aggV_isB k l
  generalize aggV k l=v at h hb ⊢
  obtain ⟨o,n⟩:=v
  have h2:o=true:=h
  subst h2
  have:=(isB_iff true n).1 hb
  simpa using this
theorem xpass_any {Y:Nat→Prop} {B X:Nat} {R:Option Nat} {room:Int} {n ag xf:Nat} {A:Option Addr} {c:Nat} {m:Arcs} {D:List UInt8} (i:Nat) (hi:i+1<m.length) (t:Int) (ht0:0≤t) (ht:t≤4294967295) (hn:n≤900000) (w:World) (h:XfM Y w B X R room n ag xf A c m D):Calls Tryz.prog 88 #[.pointer (some ⟨B,0,none⟩), .int .i64 i, .int .i64 t] w (RetPs Y B X R room n ag xf A c m D (gathS ag xf m D (i+1) t) w):=by
 obtain ⟨v0,hv0,vz0,vz1,vz2⟩:=info_parts info_val
 have hF:=MayF.ofH h.may
 have hmS:mayS m=true:=by have h2:=h.may;unfold mayH at h2;rw[Bool.and_eq_true,nats_ints] at h2;exact h2.2
 have hq:=quot_le hmS hi (by omega)
 rw[Nat.add_sub_cancel] at hq
 have hi0:i<m.length:=by omega
 have hs1:=hF.s1 (i+1) hi
 have hs0:=hF.s1 i hi0
 have hm8:(m.length:Int)≤8:=by have:=hF.l8;omega
 obtain ⟨b0,b1,b2,b3,b4⟩:=h.bc
 have lB:=h.lB
 obtain ⟨ad,hAd,hb,hc⟩:=h.ri (by rw[ints_len];omega)
 obtain ⟨p0,p1⟩:=hc i (by rw[ints_len];exact hi0)
 obtain ⟨p2,p3⟩:=hc (i+1) (by rw[ints_len];exact hi)
 rw[ints_at m i hi0] at p0 p1
 rw[ints_at m (i+1) hi] at p2 p3
 simp only at p0 p1 p2 p3
 rw[←stpS_at hi0] at p0
 rw[←cntS_at hi0] at p1
 rw[←stpS_at hi] at p2
 rw[←cntS_at hi] at p3
 have hbk:∀z,(ad.add z).block<w.heap.size:=fun z=>by rw[adB];exact hb
 obtain ⟨S1,hS1⟩:∃S1,S1=stpS m (i+1):=⟨_,rfl⟩
 obtain ⟨C1,hC1⟩:∃C1,C1=cntS m (i+1):=⟨_,rfl⟩
 obtain ⟨S0,hS0e⟩:∃S0,S0=stpS m i:=⟨_,rfl⟩
 obtain ⟨C0,hC0⟩:∃C0,C0=cntS m i:=⟨_,rfl⟩
 obtain ⟨T,hT⟩:∃T,T=alignS t (stpS m (i+1)):=⟨_,rfl⟩
 have hTf:=align_facts (t:=t) (step:=(stpS m (i+1):Int)) (by omega) ht0
 have hal:=fun W=>ralign_any t (stpS m (i+1)) (by omega) W
 have HTE:Hid (alignS t (stpS m (i+1))=T):=Lib.hid hT.symm
 rw[←hT] at hTf hal
 have hga:gathS ag xf m D (i+1) t=if (putV ag xf (gathL m D (i+1) T)).ok=true∧1≤T then some (layS m D (i+1) T (putV ag xf (gathL m D (i+1) T)).n) else none:=by unfold gathS gathV;rw[←hT]
 have hgl:gathL m D (i+1) T=(List.range (S1/S0)).map fun (k:Nat)=>hasV m D i (T+k*S0):=by unfold gathL;rw[Nat.add_sub_cancel,←hS1,←hS0e]
 rw[←hS0e] at p0 hs0 hq
 rw[←hC0] at p1
 rw[←hS1] at p2 hs1 hq hal
 rw[←hC1] at p3
 obtain ⟨L,hL⟩:∃L,L=gathL m D (i+1) T:=⟨_,rfl⟩
 rw[←hL] at hga hgl
 obtain ⟨N,hN⟩:∃N,N=S1/S0:=⟨_,rfl⟩
 rw[←hN] at hgl hq
 have hLl:L.length=N:=by rw[hgl,List.length_map,List.length_range]
 have hLq:∀q (hq:q<L.length),L[q]=hasV m D i (T+q*S0):=fun q hq=>by
  subst hgl
  simp only[List.getElem_map,List.getElem_range]
 obtain ⟨b2v,hb2v⟩:∃x:Nat,x=ag:=⟨_,rfl⟩
 obtain ⟨b3v,hb3v⟩:∃x:Nat,x=xf:=⟨_,rfl⟩
 subst hAd
 have hS00:PsS B b2v b3v (some ad) m.length c ad i S0 C0 S1 C1 w:=⟨lB,hbk,trivial,b4,p0,p1,p2,p3⟩
 have hii:(i:Int)<(m.length:Int):=by omega
 have hij:(i:Int)+1<(m.length:Int):=by omega
 have hw1:IntKind.i64.wrap ((i:Int)+1)=(i:Int)+1:=IntWalk.i64_in _ (by omega)
 have HX:=Lib.hid h
 rw[hga]
 obtain ⟨pv,hpv⟩:∃pv,pv=putV ag xf L:=⟨_,rfl⟩
 have HPVB:Hid (pv.ok=true→ -4611686018427387904≤pv.n∧pv.n≤4611686018427387904):=Lib.hid (by rw[hpv];exact putV_bound)
 rw[←hpv]
 obtain ⟨vo,vn⟩:=pv
 have HPV:=Lib.hid hpv
 obtain ⟨o,ho⟩:∃o,o=if vo=true∧1≤T then some (layS m D (i+1) T vn) else none:=⟨_,rfl⟩
 simp only[←ho]
 have HO:=Lib.hid ho
 clear hpv ho
 have HAL:=Lib.hid hal
 have HL:=Lib.hid (And.intro hLl (And.intro hLq hL))
 have hqi:Int.tdiv (S1:Int) (S0:Int)=(N:Int):=by rw[Int.tdiv_eq_ediv_of_nonneg (by omega),hN];simp
 have hwq:IntKind.i64.wrap (Int.tdiv (S1:Int) (S0:Int))=(N:Int):=by rw[hqi];exact IntWalk.i64_in _ (by omega)
 have hwqb:wrap64 ((S1:Int)/(S0:Int))=(N:Int):=by
  have e:(S1:Int)/(S0:Int)=(N:Int):=by rw[hN];simp
  rw[e];exact IntWalk.wrap64_in (N:Int) (by omega)
 have HWQ:=Lib.hid (And.intro hwq hwqb)
 clear hwq hwqb
 have hS0n:¬(S0:Int)=0:=by omega
 have h01:(0:Int)≤(S1:Int):=by omega
 have hNi:(N:Int)≤87381:=Int.ofNat_le.2 (Nat.le_trans hq.1 hq.2)
 have HNS:Hid (∀k:Nat,k<N→k*S0≤S1):=Lib.hid fun k hk=>Nat.le_trans (Nat.mul_le_mul_right S0 (Nat.le_of_lt hk)) (by rw[hN];exact Nat.div_mul_le_self S1 S0)
 have HST:=Lib.hid (And.intro hs1 (And.intro hs0 hTf))
 clear h hF hmS hq hs1 hs0 hb hc p0 p1 p2 p3 hbk hS1 hC1 hS0e hC0 hT hTf hal hga hgl hL hLl hLq hN hb2v hb3v hqi
 go_enter Tryz.func88,Tryz.ntmps88
 go_upto_region 1 with (fail)
 go_cut [7,8] from 13 to 30 (fun p q wx=>∃pa pb:Nat,p= .pointer (some ⟨pa,0,none⟩)∧q= .pointer (some ⟨pb,0,none⟩)∧Blk2 pa S0 C0 wx∧Blk2 pb S1 C1 wx∧Gr w wx)
 case first=>
  refine wp_region_Z 20 (PsS B b2v b3v (some ad) m.length c ad i S0 C0 S1 C1) (by kernel_rfl) ?_
  have hSw:PsS B b2v b3v (some ad) m.length c ad i S0 C0 S1 C1 w:=hS00
  have hS0:PsS B b2v b3v (some ad) m.length c ad i S0 C0 S1 C1 w.drew:=hS00
  have g0:Gr w w.drew:=Gr.drew (Gr.refl _)
  obtain ⟨W0,hW0⟩:∃W0,W0=w.drew:=⟨_,rfl⟩
  rw[←hW0] at hS0 g0 ⊢
  clear hW0
  refine zu 0 rfl hS0 (fun W hS=>by go_simp;rfl) ?_
  refine zu 1 rfl hS0 (fun W hS=>by go_simp;rfl) ?_
  refine zu 2 rfl hS0 (fun W hS=>by go_simp;rfl) ?_
  refine zu 3 rfl hS0 (fun W hS=>by go_simp;rfl) ?_
  refine zu 4 rfl hS0 (fun W hS=>by have e4:=hS.2.2.2.1;go_simp;rfl) ?_
  refine zu 5 rfl hS0 (fun W hS=>by go_simp;rfl) ?_
  refine zu 6 rfl hS0 (fun W hS=>by go_simp;rfl) ?_
  refine zu 7 rfl hS0 (fun W hS=>by have e5:=hS.2.2.2.2.1;have e6:=hS.2.2.2.2.2.1;go_simp;rfl) ?_
  refine zu 8 rfl hS0 (fun W hS=>by go_simp;rfl) ?_
  refine zu 9 rfl hS0 (fun W hS=>by go_simp;rfl) ?_
  refine zu 10 rfl hS0 (fun W hS=>by go_simp;rfl) ?_
  refine zu 11 rfl hS0 (fun W hS=>by go_simp;rfl) ?_
  refine zu 12 rfl hS0 (fun W hS=>by have e4:=hS.2.2.2.1;go_simp;rfl) ?_
  refine zu 13 rfl hS0 (fun W hS=>by go_simp;rfl) ?_
  refine zu 14 rfl hS0 (fun W hS=>by go_simp;rfl) ?_
  refine zu 15 rfl hS0 (fun W hS=>by go_simp;rfl) ?_
  refine zu 16 rfl hS0 (fun W hS=>by have e7:=hS.2.2.2.2.2.2.1;have e8:=hS.2.2.2.2.2.2.2;go_simp;rfl) ?_
  refine wpAnyZ_ready (rs:=[17,18]) (by kernel_rfl) (by simp) ?_
  refine AllReadyZ.cons (i:=17) rfl (by kernel_rfl) ?zx32 (AllReadyZ.cons (i:=18) rfl (by kernel_rfl) ?zx33 AllReadyZ.nil)
  ·
   intro K hK
   simp only[List.getElem_toArray,List.getElem_cons_succ,List.getElem_cons_zero]
   go_simp
   obtain ⟨w1,hw1⟩:∃w1,w1=W0.alloc (.cells #[.int .i64 0, .int .i64 0] 69):=⟨_,rfl⟩
   have k2:Gr W0 w1:=by rw[hw1];exact Gr.alloc (Gr.refl _) _
   have q5:Blk2 W0.heap.size 0 0 w1:=by rw[hw1];exact Blk2.new _
   have zw1:W0.heap.size<w1.heap.size:=q5.1
   rw[←hw1]
   clear hw1
   have g3:=Gr.trans g0 k2
   have s4:=PsS.gr hS0 k2
   refine hK.out _ _ (fun hnz=>?zs18) (fun _=>?zr18)
   case zs18=>exact s4
   clear hK K
   try (simp only[Pu,List.getElem_toArray,List.getElem_cons_succ,List.getElem_cons_zero])
   refine wpAnyZ_ready (rs:=[18]) (by kernel_rfl) (by simp) ?_
   refine AllReadyZ.cons (i:=18) rfl (by kernel_rfl) ?zx24 AllReadyZ.nil
   intro K hK
   simp only[List.getElem_toArray,List.getElem_cons_succ,List.getElem_cons_zero]
   go_simp
   obtain ⟨w6,hw6⟩:∃w6,w6=w1.alloc (.cells #[.int .i64 0, .int .i64 0] 69):=⟨_,rfl⟩
   have k7:Gr w1 w6:=by rw[hw6];exact Gr.alloc (Gr.refl _) _
   have q10:Blk2 w1.heap.size 0 0 w6:=by rw[hw6];exact Blk2.new _
   have zw6:w1.heap.size<w6.heap.size:=q10.1
   rw[←hw6]
   clear hw6
   have g8:=Gr.trans g3 k7
   have s9:=PsS.gr s4 k7
   have q11:=q5.gr k7
   refine hK.out _ _ (fun hnz=>?zs19) (fun _=>?zr19)
   case zs19=>exact s9
   clear hK K
   try (simp only[Pu,List.getElem_toArray,List.getElem_cons_succ,List.getElem_cons_zero])
   refine wpAnyZ_ready (rs:=[19]) (by kernel_rfl) (by simp) ?_
   refine AllReadyZ.cons (i:=19) rfl (by kernel_rfl) ?zx23 AllReadyZ.nil
   intro K hK
   simp only[List.getElem_toArray,List.getElem_cons_succ,List.getElem_cons_zero]
   have n0:=q11.2.1
   have n1:=q11.2.2.1
   have n2:=q11.2.2.2.1
   have n3:=q11.2.2.2.2
   have nz:=q11.1
   go_simp
   obtain ⟨w12,hw12⟩:∃w12,w12=(w6.setCell ⟨W0.heap.size,0,none⟩ (.int .i64 (S0:Nat))).setCell ⟨W0.heap.size,1,none⟩ (.int .i64 (C0:Nat)):=⟨_,rfl⟩
   have q16:Blk2 W0.heap.size S0 C0 w12:=by rw[hw12];exact Blk2.put q11 _ _
   have g14:Gr w w12:=by rw[hw12];exact (g8.setCell (p:=⟨W0.heap.size,0,none⟩) g0.size _).setCell (p:=⟨W0.heap.size,1,none⟩) g0.size _
   have s15:PsS B b2v b3v (some ad) m.length c ad i S0 C0 S1 C1 w12:=PsS.gr hSw g14
   have q17:Blk2 w1.heap.size 0 0 w12:=by rw[hw12];exact Blk2.other q10 (fun e=>by omega)
   rw[←hw12]
   clear hw12 n0 n1 n2 n3 nz
   refine hK.out _ _ (fun hnz=>?zs20) (fun _=>?zr20)
   case zs20=>exact s15
   clear hK K
   try (simp only[Pu,List.getElem_toArray,List.getElem_cons_succ,List.getElem_cons_zero])
   refine wpAnyZ_ready (rs:=[20]) (by kernel_rfl) (by simp) ?_
   refine AllReadyZ.cons (i:=20) rfl (by kernel_rfl) ?zx22 AllReadyZ.nil
   intro K hK
   simp only[List.getElem_toArray,List.getElem_cons_succ,List.getElem_cons_zero]
   have n0:=q17.2.1
   have n1:=q17.2.2.1
   have n2:=q17.2.2.2.1
   have n3:=q17.2.2.2.2
   have nz:=q17.1
   go_simp
   obtain ⟨w18,hw18⟩:∃w18,w18=(w12.setCell ⟨w1.heap.size,0,none⟩ (.int .i64 (S1:Nat))).setCell ⟨w1.heap.size,1,none⟩ (.int .i64 (C1:Nat)):=⟨_,rfl⟩
   have q22:Blk2 w1.heap.size S1 C1 w18:=by rw[hw18];exact Blk2.put q17 _ _
   have g20:Gr w w18:=by rw[hw18];exact (g14.setCell (p:=⟨w1.heap.size,0,none⟩) g3.size _).setCell (p:=⟨w1.heap.size,1,none⟩) g3.size _
   have s21:PsS B b2v b3v (some ad) m.length c ad i S0 C0 S1 C1 w18:=PsS.gr hSw g20
   have q23:Blk2 W0.heap.size S0 C0 w18:=by rw[hw18];exact Blk2.other q16 (fun e=>by omega)
   rw[←hw18]
   clear hw18 n0 n1 n2 n3 nz
   refine hK.out _ _ (fun hnz=>?zs21) (fun _=>?zr21)
   case zs21=>exact absurd rfl hnz
   clear hK K
   try (simp only[Pu,List.getElem_toArray,List.getElem_cons_succ,List.getElem_cons_zero])
   refine wpAnyZ_done (by kernel_rfl) ?_ _
   go_wp2
   go_meet
   exact ⟨_,_,rfl,rfl,q23,q22,g20⟩
  ·
   intro K hK
   simp only[List.getElem_toArray,List.getElem_cons_succ,List.getElem_cons_zero]
   go_simp
   obtain ⟨w24,hw24⟩:∃w24,w24=W0.alloc (.cells #[.int .i64 0, .int .i64 0] 69):=⟨_,rfl⟩
   have k25:Gr W0 w24:=by rw[hw24];exact Gr.alloc (Gr.refl _) _
   have q28:Blk2 W0.heap.size 0 0 w24:=by rw[hw24];exact Blk2.new _
   have zw24:W0.heap.size<w24.heap.size:=q28.1
   rw[←hw24]
   clear hw24
   have g26:=Gr.trans g0 k25
   have s27:=PsS.gr hS0 k25
   refine hK.out _ _ (fun hnz=>?zs25) (fun _=>?zr25)
   case zs25=>exact s27
   clear hK K
   try (simp only[Pu,List.getElem_toArray,List.getElem_cons_succ,List.getElem_cons_zero])
   refine wpAnyZ_ready (rs:=[17]) (by kernel_rfl) (by simp) ?_
   refine AllReadyZ.cons (i:=17) rfl (by kernel_rfl) ?zx31 AllReadyZ.nil
   intro K hK
   simp only[List.getElem_toArray,List.getElem_cons_succ,List.getElem_cons_zero]
   go_simp
   obtain ⟨w29,hw29⟩:∃w29,w29=w24.alloc (.cells #[.int .i64 0, .int .i64 0] 69):=⟨_,rfl⟩
   have k30:Gr w24 w29:=by rw[hw29];exact Gr.alloc (Gr.refl _) _
   have q33:Blk2 w24.heap.size 0 0 w29:=by rw[hw29];exact Blk2.new _
   have zw29:w24.heap.size<w29.heap.size:=q33.1
   rw[←hw29]
   clear hw29
   have g31:=Gr.trans g26 k30
   have s32:=PsS.gr s27 k30
   have q34:=q28.gr k30
   refine hK.out _ _ (fun hnz=>?zs26) (fun _=>?zr26)
   case zs26=>exact s32
   clear hK K
   try (simp only[Pu,List.getElem_toArray,List.getElem_cons_succ,List.getElem_cons_zero])
   refine wpAnyZ_ready (rs:=[19]) (by kernel_rfl) (by simp) ?_
   refine AllReadyZ.cons (i:=19) rfl (by kernel_rfl) ?zx30 AllReadyZ.nil
   intro K hK
   simp only[List.getElem_toArray,List.getElem_cons_succ,List.getElem_cons_zero]
   have n0:=q33.2.1
   have n1:=q33.2.2.1
   have n2:=q33.2.2.2.1
   have n3:=q33.2.2.2.2
   have nz:=q33.1
   go_simp
   obtain ⟨w35,hw35⟩:∃w35,w35=(w29.setCell ⟨w24.heap.size,0,none⟩ (.int .i64 (S0:Nat))).setCell ⟨w24.heap.size,1,none⟩ (.int .i64 (C0:Nat)):=⟨_,rfl⟩
   have q39:Blk2 w24.heap.size S0 C0 w35:=by rw[hw35];exact Blk2.put q33 _ _
   have g37:Gr w w35:=by rw[hw35];exact (g31.setCell (p:=⟨w24.heap.size,0,none⟩) g26.size _).setCell (p:=⟨w24.heap.size,1,none⟩) g26.size _
   have s38:PsS B b2v b3v (some ad) m.length c ad i S0 C0 S1 C1 w35:=PsS.gr hSw g37
   have q40:Blk2 W0.heap.size 0 0 w35:=by rw[hw35];exact Blk2.other q34 (fun e=>by omega)
   rw[←hw35]
   clear hw35 n0 n1 n2 n3 nz
   refine hK.out _ _ (fun hnz=>?zs27) (fun _=>?zr27)
   case zs27=>exact s38
   clear hK K
   try (simp only[Pu,List.getElem_toArray,List.getElem_cons_succ,List.getElem_cons_zero])
   refine wpAnyZ_ready (rs:=[20]) (by kernel_rfl) (by simp) ?_
   refine AllReadyZ.cons (i:=20) rfl (by kernel_rfl) ?zx29 AllReadyZ.nil
   intro K hK
   simp only[List.getElem_toArray,List.getElem_cons_succ,List.getElem_cons_zero]
   have n0:=q40.2.1
   have n1:=q40.2.2.1
   have n2:=q40.2.2.2.1
   have n3:=q40.2.2.2.2
   have nz:=q40.1
   go_simp
   obtain ⟨w41,hw41⟩:∃w41,w41=(w35.setCell ⟨W0.heap.size,0,none⟩ (.int .i64 (S1:Nat))).setCell ⟨W0.heap.size,1,none⟩ (.int .i64 (C1:Nat)):=⟨_,rfl⟩
   have q45:Blk2 W0.heap.size S1 C1 w41:=by rw[hw41];exact Blk2.put q40 _ _
   have g43:Gr w w41:=by rw[hw41];exact (g37.setCell (p:=⟨W0.heap.size,0,none⟩) g0.size _).setCell (p:=⟨W0.heap.size,1,none⟩) g0.size _
   have s44:PsS B b2v b3v (some ad) m.length c ad i S0 C0 S1 C1 w41:=PsS.gr hSw g43
   have q46:Blk2 w24.heap.size S0 C0 w41:=by rw[hw41];exact Blk2.other q39 (fun e=>by omega)
   rw[←hw41]
   clear hw41 n0 n1 n2 n3 nz
   refine hK.out _ _ (fun hnz=>?zs28) (fun _=>?zr28)
   case zs28=>exact absurd rfl hnz
   clear hK K
   try (simp only[Pu,List.getElem_toArray,List.getElem_cons_succ,List.getElem_cons_zero])
   refine wpAnyZ_done (by kernel_rfl) ?_ _
   go_wp2
   go_meet
   exact ⟨_,_,rfl,rfl,q46,q45,g43⟩
 case rest=>
 obtain ⟨pa,pb,rfl,rfl,hpa,hpb,hgx⟩:=hcut
 have HGX:=Lib.hid hgx
 have HPA:=Lib.hid hpa
 have HPB:=Lib.hid hpb
 have a0:=hpa.2.1
 have q0:=hpb.2.1
 clear hgx hpa hpb b0 b1 b2 b3 b4 hS00
 go_upto_region 5 with (go_at_call 76;refine (HAL.out _).mono ?_;rintro e w4 ⟨rfl,rfl⟩)
 clear a0 q0
 go_loopw [10,11] (fun v j wr=>∃q:Nat,q≤N∧j= .int .i64 q∧Gr wc wr∧wr.ownsRow wc.heap.size 107 2 v q (vcells (L.take q))) (fun _ j _=>N-(intOf j).toNat)
 case atStart=>exact ⟨0,Nat.zero_le _,rfl,Gr.refl _,World.ownsRow_nil _ _ _ _⟩
 case round=>
  obtain ⟨q,hq,rfl,hgr,hown⟩:=hrel
  have a0:=(HPA.out.gr hgr).2.1
  have q0:=(HPB.out.gr hgr).2.1
  obtain ⟨Aw,cw,hvw⟩:=own_form hown
  subst hvw
  by_cases hlt:q<N
  ·
   have hlti:(q:Int)<(N:Int):=by omega
   have hql:q<L.length:=by rw[HL.out.1];exact hlt
   have hx:=HL.out.2.1 q hql
   have htk:vcells (L.take (q+1))=vcells (L.take q)++vcells [L[q]]:=by rw[List.take_succ_eq_append_getElem hql,vcells_append]
   have hqs:=HNS.out q hlt
   have hst:=HST.out
   have hu1:IntKind.i64.wrap ((q:Int)*(S0:Int))=((q*S0:Nat):Int):=by rw[IntWalk.i64_in _ (by rw[←Int.natCast_mul];omega)];simp
   obtain ⟨qs,hqs2⟩:∃qs,qs=q*S0:=⟨_,rfl⟩
   rw[←hqs2] at hqs hu1
   have hu2:IntKind.i64.wrap (T+(qs:Int))=T+(qs:Int):=IntWalk.i64_in _ (by omega)
   have hval:=fun W (g:Gr w W)=>xval_any i hi0 (T+(qs:Int)) (by omega) (by omega) W (HX.out.gr g)
   unfold RetVl at hval
   rw[hqs2,show T+((q*S0:Nat):Int)=T+(q:Int)*(S0:Int) by simp,←hx] at hval
   rw[show T+(q:Int)*(S0:Int)=T+(qs:Int) by rw[hqs2];simp] at hval
   obtain ⟨x,hxe⟩:∃x,x=L[q]:=⟨_,rfl⟩
   rw[←hxe] at hval htk
   have HVA:=Lib.hid hval
   have HTK:=Lib.hid htk
   have HGR:=Lib.hid (And.intro (HGX.out.trans hgr) hgr)
   have HOW:=Lib.hid hown
   have hgz:=hgr.size
   have hqi:(q:Int)≤87381:=by omega
   clear hx hval htk hxe hgr hown hqs hqs2 hst
   have hwqb:=HWQ.out.2
   go_wp2_with (first|(go_at_call 77;refine (HVA.out _ HGR.out.1).mono ?_;rintro e w4 ⟨rfl,g4⟩;clear hwqb;have HG4:=Lib.hid g4;have hz4:=g4.size;clear g4)|(at_builtin;have own4:=own_grU (own_grU HOW.out HG4.out) (Gr.alloc (Gr.refl w4) (.cells #[.bool x.ok, .int .i64 x.n] 107));have hrx:Rd (w4.alloc (.cells #[.bool x.ok, .int .i64 x.n] 107)) 2 (some ⟨w4.heap.size,0,none⟩) 1 (vcells [x]):=Rd.newU (W:=w4) (n:=1) (size:=2) rfl 107 (vcells [x]) rfl;refine wpList_append_rd rfl (.tmp 43) (.tmp 53) 87 rfl wc.heap.size 107 v0 _ 2 16 Tryz.underlying87 hv0 vz0 vz1 vz2 rfl (by decide) _ q _ rfl own4 (some ⟨w4.heap.size,0,none⟩) 1 _ (vcells [x]) rfl hrx (vcells_one _) (by unfold maxLen;omega) (by omega) (by first|(simp;done)|(simp;omega)) ?_;intro v6 w6 own6 hgr6 hob6;have H6:=Lib.hid (And.intro own6 (((HGR.out.2.trans HG4.out).alloc _).grown hgr6 (fun k e=>(own4.lt k e).1)));clear own4 hrx own6 hgr6 hob6))
   go_roundw
   case rel=>
    refine ⟨q+1,by omega,by go_num,H6.out.2,?_⟩
    rw[HTK.out]
    exact H6.out.1
   case measure=>simp[intOf];omega
  ·
   have hqe:q=N:=by omega
   subst hqe
   have hrv:Rv wr Aw L:=by
    have:=Rd.own hown
    rw[←HL.out.1,List.take_length] at this
    exact this
   have HPUT:Hid (∀W,Gr wr W→Calls Tryz.prog 102 #[.int .i64 ag, .int .i64 xf, .slice Aw q cw] W fun e w'=>e= .returned (.agg #[.bool vo, .int .i64 vn])∧Gr W w'):=Lib.hid fun W gW=>by
    have:=rput_any ag xf Aw cw L W (by rw[HL.out.1];omega) (hrv.gr gW)
    rw[←HPV.out,HL.out.1] at this
    exact this
   have HG:=Lib.hid (HGX.out.trans hgr)
   clear hown hrv hgr
   have hwqb:=HWQ.out.2
   go_upto_region 8 with (fail)
   clear hwqb a0 q0
   go_cut [12] from 55 to 67 (fun s12 wx=>∃p,s12= .pointer (some ⟨p,0,none⟩)∧wx.cell? ⟨p,0,none⟩=some (.bool vo)∧wx.cell? ⟨p,1,none⟩=some (.int .i64 vn)∧p<wx.heap.size∧Gr wr wx)
   case first=>
    refine wp_region_Z 13 (Gr wr) (by kernel_rfl) ?_
    have hS0:Gr wr wr.drew:=Gr.drew (Gr.refl _)
    obtain ⟨V,hV⟩:∃V,V=wr.drew:=⟨_,rfl⟩
    rw[←hV] at hS0 ⊢
    clear hV
    refine zu 0 rfl hS0 (fun W hS=>by go_simp;rfl) ?_
    refine zu 1 rfl hS0 (fun W hS=>by go_simp;rfl) ?_
    refine zu 2 rfl hS0 (fun W hS=>by go_simp;rfl) ?_
    refine zu 3 rfl hS0 (fun W hS=>by go_simp;rfl) ?_
    refine zu 4 rfl hS0 (fun W hS=>by obtain ⟨b0,b1,b2,b3,b4⟩:=(HX.out.gr (HG.out.trans hS)).bc;go_simp;rfl) ?_
    refine zu 5 rfl hS0 (fun W hS=>by go_simp;rfl) ?_
    refine zu 6 rfl hS0 (fun W hS=>by go_simp;rfl) ?_
    refine zu 7 rfl hS0 (fun W hS=>by go_simp;rfl) ?_
    refine zu 8 rfl hS0 (fun W hS=>by go_simp;rfl) ?_
    refine zu 9 rfl hS0 (fun W hS=>by obtain ⟨b0,b1,b2,b3,b4⟩:=(HX.out.gr (HG.out.trans hS)).bc;go_simp;rfl) ?_
    refine zu 10 rfl hS0 (fun W hS=>by go_simp;rfl) ?_
    refine wpAnyZ_ready (rs:=[11,12]) (by kernel_rfl) (by simp) ?_
    refine AllReadyZ.cons (i:=11) rfl (by kernel_rfl) ?zx90 (AllReadyZ.cons (i:=12) rfl (by kernel_rfl) ?zx91 AllReadyZ.nil)
    ·
     intro K hK
     simp only[List.getElem_toArray,List.getElem_cons_succ,List.getElem_cons_zero]
     go_simp
     refine (HPUT.out _ hS0).mono ?_
     rintro e V47 ⟨rfl,kV47⟩
     have g48:=Gr.trans hS0 kV47
     clear kV47
     go_wp2_with fail
     refine hK.out _ _ (fun hnz=>?zs49) (fun _=>?zr50)
     case zs49=>exact g48
     clear hK K
     try (simp only[Pu,List.getElem_toArray,List.getElem_cons_succ,List.getElem_cons_zero])
     refine wpAnyZ_ready (rs:=[12]) (by kernel_rfl) (by simp) ?_
     refine AllReadyZ.cons (i:=12) rfl (by kernel_rfl) ?zx56 AllReadyZ.nil
     intro K hK
     simp only[List.getElem_toArray,List.getElem_cons_succ,List.getElem_cons_zero]
     go_simp
     obtain ⟨V51,hV51⟩:∃V51,V51=V47.alloc (.cells #[.bool false, .int .i64 0] 107):=⟨_,rfl⟩
     have kV51:Gr V47 V51:=by rw[hV51];exact Gr.alloc (Gr.refl _) _
     have nb52:NBl V47.heap.size V51 V47.heap.size (.bool false) (.int .i64 0):=by rw[hV51];exact NBl.new _ _ _ _
     rw[←hV51]
     clear hV51
     have g53:=Gr.trans g48 kV51
     clear kV51
     refine hK.out _ _ (fun hnz=>?zs54) (fun _=>?zr55)
     case zs54=>exact g53
     clear hK K
     try (simp only[Pu,List.getElem_toArray,List.getElem_cons_succ,List.getElem_cons_zero])
     refine wpAnyZ_ready (rs:=[13]) (by kernel_rfl) (by simp) ?_
     refine AllReadyZ.cons (i:=13) rfl (by kernel_rfl) ?zx67 AllReadyZ.nil
     intro K hK
     simp only[List.getElem_toArray,List.getElem_cons_succ,List.getElem_cons_zero]
     obtain ⟨q57,q58,q59,q60, -, -⟩:=id nb52
     have nb61:=nb52.set (.bool vo) (.int .i64 vn) rfl rfl
     have g63:=((g53.setCell (p:=⟨V47.heap.size,0,none⟩) g48.size (.bool vo)).setCell (p:=⟨V47.heap.size,1,none⟩) g48.size (.int .i64 vn))
     go_wp2_with fail
     clear q57 q58 q59 q60
     refine hK.out _ _ (fun hnz=>?zs65) (fun _=>?zr66)
     case zs65=>exact absurd rfl hnz
     clear hK K
     try (simp only[Pu,List.getElem_toArray,List.getElem_cons_succ,List.getElem_cons_zero])
     refine wpAnyZ_done (by kernel_rfl) ?_ _
     go_wp2_with fail
     go_meet
     exact ⟨_,rfl,nb61.c0,nb61.c1,nb61.lt,g63⟩
    ·
     intro K hK
     simp only[List.getElem_toArray,List.getElem_cons_succ,List.getElem_cons_zero]
     go_simp
     obtain ⟨V68,hV68⟩:∃V68,V68=V.alloc (.cells #[.bool false, .int .i64 0] 107):=⟨_,rfl⟩
     have kV68:Gr V V68:=by rw[hV68];exact Gr.alloc (Gr.refl _) _
     have nb69:NBl V.heap.size V68 V.heap.size (.bool false) (.int .i64 0):=by rw[hV68];exact NBl.new _ _ _ _
     rw[←hV68]
     clear hV68
     have g70:=Gr.trans hS0 kV68
     clear kV68
     refine hK.out _ _ (fun hnz=>?zs71) (fun _=>?zr72)
     case zs71=>exact g70
     clear hK K
     try (simp only[Pu,List.getElem_toArray,List.getElem_cons_succ,List.getElem_cons_zero])
     refine wpAnyZ_ready (rs:=[11]) (by kernel_rfl) (by simp) ?_
     refine AllReadyZ.cons (i:=11) rfl (by kernel_rfl) ?zx78 AllReadyZ.nil
     intro K hK
     simp only[List.getElem_toArray,List.getElem_cons_succ,List.getElem_cons_zero]
     go_simp
     refine (HPUT.out _ g70).mono ?_
     rintro e V73 ⟨rfl,kV73⟩
     have nb75:=nb69.gr kV73
     have g74:=Gr.trans g70 kV73
     clear kV73
     go_wp2_with fail
     refine hK.out _ _ (fun hnz=>?zs76) (fun _=>?zr77)
     case zs76=>exact g74
     clear hK K
     try (simp only[Pu,List.getElem_toArray,List.getElem_cons_succ,List.getElem_cons_zero])
     refine wpAnyZ_ready (rs:=[13]) (by kernel_rfl) (by simp) ?_
     refine AllReadyZ.cons (i:=13) rfl (by kernel_rfl) ?zx89 AllReadyZ.nil
     intro K hK
     simp only[List.getElem_toArray,List.getElem_cons_succ,List.getElem_cons_zero]
     obtain ⟨q79,q80,q81,q82, -, -⟩:=id nb75
     have nb83:=nb75.set (.bool vo) (.int .i64 vn) rfl rfl
     have g85:=((g74.setCell (p:=⟨V.heap.size,0,none⟩) hS0.size (.bool vo)).setCell (p:=⟨V.heap.size,1,none⟩) hS0.size (.int .i64 vn))
     go_wp2_with fail
     clear q79 q80 q81 q82
     refine hK.out _ _ (fun hnz=>?zs87) (fun _=>?zr88)
     case zs87=>exact absurd rfl hnz
     clear hK K
     try (simp only[Pu,List.getElem_toArray,List.getElem_cons_succ,List.getElem_cons_zero])
     refine wpAnyZ_done (by kernel_rfl) ?_ _
     go_wp2_with fail
     go_meet
     exact ⟨_,rfl,nb83.c0,nb83.c1,nb83.lt,g85⟩
   case rest=>
    obtain ⟨p,rfl,k0,k1,kl,hgx⟩:=hcut
    have HGY:=Lib.hid (HG.out.trans hgx)
    have HFX:=Lib.hid (HX.out.gr HGY.out)
    cases vo with
    | false=>
     have HN:=Lib.hid (show o=none by rw[HO.out,if_neg (fun e=>by cases e.1)])
     clear hgx
     go_wp2
     go_ret
     rw[HN.out]
     exact ⟨rfl,HGY.out⟩
    | true=>
     by_cases hT1:T<1
     ·
      have HN:=Lib.hid (show o=none by rw[HO.out,if_neg (fun e=>by have:=e.2;omega)])
      have hT0:T=0:=by have:=HST.out.2.2.1;omega
      subst hT0
      clear hgx
      go_wp2
      go_ret
      rw[HN.out]
      exact ⟨rfl,HGY.out⟩
     ·
      have HN:=Lib.hid (show o=some (layS m D (i+1) T vn) by rw[HO.out,if_pos ⟨rfl,by omega⟩])
      have hT0:¬T=0:=by omega
      have hvb:=HPVB.out rfl
      have HWR:=Lib.hid (xwr_any (i+1) hi t vn ht0 (by omega) (by have:=hvb.1;omega) (by have:=hvb.2;omega) hn _ HFX.out)
      clear hgx hvb
      go_wp2_with (go_at_call 87;refine HWR.out.mono ?_;rintro e w5 ⟨rfl,R',n',hn',hf,hk,hr⟩;have H5:=Lib.hid (And.intro hn' (And.intro hf (And.intro hk hr)));clear hn' hf hk hr)
      go_ret
      rw[HN.out]
      refine ⟨rfl,R',n',H5.out.1,?_,(Kp.of_gr _ HGY.out).trans H5.out.2.2.1 (fun _ _ e=>e),fun z hz=>?_⟩
      ·
       have h2:=H5.out.2.1
       rw[HTE.out] at h2
       exact h2
      ·
       rcases H5.out.2.2.2 z hz with e|e
       ·
        exact .inl e
       ·
        exact .inr (Nat.le_trans HGY.out.size e)
def RetLx (Y:Nat→Prop) (B X:Nat) (R:Option Nat) (room:Int) (nn ag xf:Nat) (A:Option Addr) (c:Nat) (m:Arcs) (D:List UInt8) (o:Option (List UInt8)) (w:World) (e:Ending) (w':World):Prop:=
 e= .returned (.bool o.isSome)∧∃(R':Option Nat) (n':Nat),n'≤nn∧XfM Y w' B X R' room n' ag xf A c m (o.getD D)∧Kp (Xch X R) w w'∧∀i,R'=some i→R=some i∨w.heap.size≤i
theorem ofV_ok (v:Int):(ofV v).ok=isB ⟨true,v⟩:=by
 unfold ofV
 cases e:isB ⟨true,v⟩<;>rfl
theorem xch_sub {X Z:Nat} {R Rq:Option Nat} (h:∀z,Rq=some z→R=some z∨Z≤z):∀i,i<Z→Xch X Rq i→Xch X R i:=fun i hi e=>by
 rcases e with e|e
 ·
  exact .inl e
 ·
  rcases h i e with e|e
  ·
   exact .inr e
  ·
   omega
theorem xlays_any {Y:Nat→Prop} {B X:Nat} {R:Option Nat} {room:Int} {n ag xf:Nat} {A:Option Addr} {c:Nat} {m:Arcs} {D:List UInt8} (t v now:Int) (hnow:now≤4294967295) (hn:n≤899000) (w:World) (h:XfM Y w B X R room n ag xf A c m D):Calls Tryz.prog 56 #[.pointer (some ⟨B,0,none⟩), .int .i64 now, .agg #[.int .i64 t, .int .i64 v]] w (RetLx Y B X R room (n+27) ag xf A c m D (laysS ag xf m D t v now) w):=by
 obtain ⟨V,hV⟩:∃V,V=w.alloc (.cells #[.int .i64 t, .int .i64 v] 54):=⟨_,rfl⟩
 have gV:Gr w V:=by rw[hV];exact Gr.alloc (Gr.refl w) _
 have hz:w.heap.size<V.heap.size:=by rw[hV];simp
 have b0:V.cell? ⟨w.heap.size,0,none⟩=some (.int .i64 t):=by rw[hV];go_simp
 have b1:V.cell? ⟨w.heap.size,1,none⟩=some (.int .i64 v):=by rw[hV];go_simp
 obtain ⟨o,ho⟩:∃o,o=laysS ag xf m D t v now:=⟨_,rfl⟩
 rw[←ho]
 have HNO:Hid (∀W,Gr w W→o=none→∃(R':Option Nat) (n':Nat),n'≤n+27∧XfM Y W B X R' room n' ag xf A c m (o.getD D)∧Kp (Xch X R) w W∧∀j,R'=some j→R=some j∨w.heap.size≤j):=Lib.hid (fun W gW e=>⟨R,n,by omega,by rw[e];exact h.gr gW,Kp.of_gr _ gW,fun _ e=> .inl e⟩)
 have HV:=Lib.hid hV
 have HGV:=Lib.hid gV
 have H0:=Lib.hid h
 have hF:=MayF.ofH h.may
 have HF:=Lib.hid hF
 have hm8:(m.length:Int)≤8:=by have:=hF.l8;omega
 obtain ⟨ad,hAd,hb,hc⟩:=h.ri (by rw[ints_len];have:=hF.l1;omega)
 subst hAd
 have HB4:Hid (∀W,Gr V W→W.cell? ⟨B,4,none⟩=some (.slice (some ad) m.length c)):=Lib.hid fun W gW=>((h.gr gV).gr gW).bc.2.2.2.2
 have HARC:Hid (∀q (hq:q<m.length) W,Gr V W→W.cell? (ad.add (q*2))=some (.int .i64 (stpS m q:Nat))∧W.cell? ⟨(ad.add (q*2)).block,(ad.add (q*2)).off+1,none⟩=some (.int .i64 (cntS m q:Nat))):=Lib.hid fun q hq W gW=>by
  have hbk:∀z,(ad.add z).block<w.heap.size:=fun z=>by rw[adB];exact hb
  obtain ⟨p0,p1⟩:=hc q (by rw[ints_len];exact hq)
  rw[ints_at m q hq] at p0 p1
  simp only at p0 p1
  rw[←stpS_at hq] at p0
  rw[←cntS_at hq] at p1
  have gg:=gV.trans gW
  exact ⟨(Below.cell gg (p:=ad.add (q*2)) (hbk _)).trans p0,(Below.cell gg (p:=⟨(ad.add (q*2)).block,(ad.add (q*2)).off+1,none⟩) (hbk _)).trans p1⟩
 obtain ⟨vo,hvo⟩:∃vo,vo=isB ⟨true,v⟩:=⟨_,rfl⟩
 have his:∀W,Calls Tryz.prog 86 #[.agg #[.bool true, .int .i64 v]] W fun e w'=>e= .returned (.bool vo)∧Gr W w':=fun W=>by rw[hvo];exact ris_any true v W
 have HIS:=Lib.hid his
 clear hV gV h hF hb hc his
 by_cases ht1:t<1
 ·
  have HN:=Lib.hid (show o=none by rw[ho];unfold laysS;rw[if_pos (.inl ht1)])
  clear ho
  go_enter Tryz.func56,Tryz.ntmps56
  go_upto_region 1 with (fail)
  rw[←HV.out]
  clear HV
  go_wp2
  go_ret
  exact ⟨ret_b (by rw[HN.out];rfl),HNO.out _ HGV.out HN.out⟩
 by_cases htn:now<t
 ·
  have HN:=Lib.hid (show o=none by rw[ho];unfold laysS;rw[if_pos (.inr (.inl htn))])
  clear ho
  go_enter Tryz.func56,Tryz.ntmps56
  go_upto_region 1 with (fail)
  rw[←HV.out]
  clear HV
  go_wp2
  go_ret
  exact ⟨ret_b (by rw[HN.out];rfl),HNO.out _ HGV.out HN.out⟩
 cases vo with
 | false=>
  have HN:=Lib.hid (show o=none by rw[ho];unfold laysS;rw[if_pos (.inr (.inr (by rw[ofV_ok,←hvo])))])
  clear ho hvo
  go_enter Tryz.func56,Tryz.ntmps56
  go_upto_region 1 with (fail)
  rw[←HV.out]
  clear HV
  go_wp2_with (go_at_call 86;refine (HIS.out _).mono ?_;rintro e w1 ⟨rfl,g1⟩;have HG1:=Lib.hid g1;have e0:=(Below.cell g1 (p:=⟨w.heap.size,0,none⟩) hz).trans b0;have e1:=(Below.cell g1 (p:=⟨w.heap.size,1,none⟩) hz).trans b1;have hz1:=Nat.lt_of_lt_of_le hz g1.size;clear g1)
  go_ret
  exact ⟨ret_b (by rw[HN.out];rfl),HNO.out _ (HGV.out.trans HG1.out) HN.out⟩
 | true=>
 have hvb:=(isB_iff true v).1 hvo.symm
 simp only[if_true] at hvb
 have HVB:=Lib.hid hvb
 have hlay:o=if firstS m t now=m.length then none else if alignS t (stpS m (firstS m t now))<1 then none else some (upS ag xf m t (firstS m t now+1) (m.length-(firstS m t now+1)) (layS m D (firstS m t now) (alignS t (stpS m (firstS m t now))) v)):=by
  rw[ho];unfold laysS
  rw[if_neg (fun e=>by rcases e with e|e|e;exact ht1 e;exact htn e;rw[ofV_ok,←hvo] at e;cases e)]
 have HO:=Lib.hid hlay
 have hsub:IntKind.i64.wrap (now-t)=now-t:=IntWalk.i64_in _ (by omega)
 have hd1:decide (t<1)=false:=decide_eq_false ht1
 have hd2:decide (now<t)=false:=decide_eq_false htn
 clear ho hvo hlay hvb
 go_enter Tryz.func56,Tryz.ntmps56
 go_upto_region 1 with (fail)
 rw[←HV.out]
 clear HV
 go_upto_region 4 with (go_at_call 86;refine (HIS.out _).mono ?_;rintro e w1 ⟨rfl,g1⟩;have HG1:=Lib.hid g1;have e0:=(Below.cell g1 (p:=⟨w.heap.size,0,none⟩) hz).trans b0;have e1:=(Below.cell g1 (p:=⟨w.heap.size,1,none⟩) hz).trans b1;have hz1:=Nat.lt_of_lt_of_le hz g1.size;clear g1)
 clear hd1 hd2
 go_loopw [7] (fun k wr=>∃q:Nat,q≤m.length∧k= .int .i64 q∧Gr w1 wr∧Hid (∀j (hj:j<m.length),j<q→reachB m[j] t now=false)) (fun k _=>m.length-(intOf k).toNat)
 case atStart=>exact ⟨0,Nat.zero_le _,rfl,Gr.refl _,Lib.hid (fun j hj e=>by omega)⟩
 case round=>
  obtain ⟨q,hq,rfl,hgr,HPR⟩:=hrel
  have y4:=HB4.out _ (HG1.out.trans hgr)
  have y0:=(Below.cell hgr (p:=⟨w.heap.size,0,none⟩) hz1).trans e0
  have y1:=(Below.cell hgr (p:=⟨w.heap.size,1,none⟩) hz1).trans e1
  have hzr:=Nat.lt_of_lt_of_le hz1 hgr.size
  have HGR:=Lib.hid (HG1.out.trans hgr)
  by_cases hlt:q<m.length
  ·
   have hlti:(q:Int)<(m.length:Int):=by omega
   obtain ⟨p0,p1⟩:=HARC.out q hlt _ (HG1.out.trans hgr)
   obtain ⟨S,hS⟩:∃S,S=stpS m q:=⟨_,rfl⟩
   obtain ⟨C,hC⟩:∃C,C=cntS m q:=⟨_,rfl⟩
   have hs1:=HF.out.s1 q hlt
   have hc1:=HF.out.c1 q hlt
   have hrb:reachB m[q] t now=decide (now-t<(S:Int)*(C:Int)):=by
    unfold reachB
    rw[decide_eq_true (show t≤now by omega),Bool.true_and,hS,hC,stpS_at hlt,cntS_at hlt]
   rw[←hS] at p0 hs1
   rw[←hC] at p1 hc1
   obtain ⟨sc,hsc⟩:∃sc:Int,sc=(S:Int)*(C:Int):=⟨_,rfl⟩
   have hscb:sc≤16777216*16777216:=by rw[hsc,←Int.natCast_mul];have:=Nat.mul_le_mul hs1.2 hc1.2;omega
   have hsc0:0≤sc:=by rw[hsc,←Int.natCast_mul];omega
   have hmul:IntKind.i64.wrap ((S:Int)*(C:Int))=sc:=by rw[←hsc];exact IntWalk.i64_in _ (by omega)
   rw[←hsc] at hrb
   have HSC:=Lib.hid (And.intro hS (And.intro hs1 (And.intro hlt hrb)))
   clear hsc hS hC hs1 hc1 hrb
   go_upto_region 7 with (fail)
   obtain ⟨W7,hW7⟩:∃W7,W7=wr.alloc (.cells #[.int .i64 (S:Nat), .int .i64 (C:Nat)] 69):=⟨_,rfl⟩
   have k7:Gr wr W7:=by rw[hW7];exact Gr.alloc (Gr.refl _) _
   have a0:W7.cell? ⟨wr.heap.size,0,none⟩=some (.int .i64 (S:Nat)):=by rw[hW7];go_simp
   have a1:W7.cell? ⟨wr.heap.size,1,none⟩=some (.int .i64 (C:Nat)):=by rw[hW7];go_simp
   have i0:=(Below.cell k7 (p:=⟨w.heap.size,0,none⟩) hzr).trans y0
   have i1:=(Below.cell k7 (p:=⟨w.heap.size,1,none⟩) hzr).trans y1
   have hz7:=Nat.lt_of_lt_of_le hzr k7.size
   have HG7:=Lib.hid (HGR.out.trans k7)
   rw[←hW7]
   have HK7:=Lib.hid (hgr.trans k7)
   clear hW7 k7 y0 y1 y4 p0 p1 hgr
   by_cases hrc:now-t<sc
   ·
    have hdg:decide (sc≤now-t)=false:=decide_eq_false (by omega)
    have hfi:firstS m t now=q:=first_at HSC.out.2.2.1 (by rw[HSC.out.2.2.2,decide_eq_true hrc]) (fun j hj=>HPR.out j hj)
    have ho:=HO.out
    rw[hfi,if_neg (fun e=>by omega)] at ho
    obtain ⟨T,hT⟩:∃T,T=alignS t (stpS m q):=⟨_,rfl⟩
    have hTf:=align_facts (t:=t) (step:=(stpS m q:Int)) (by have:=HF.out.s1 q hlt;omega) (by omega)
    have hal:=fun W=>ralign_any t (stpS m q) (by omega) W
    rw[←hT] at hTf hal ho
    rw[←HSC.out.1] at hal
    have HAL:=Lib.hid hal
    clear hal hfi HPR hrc
    by_cases hT1:T<1
    ·
     have HN:=Lib.hid (show o=none by rw[ho,if_pos hT1])
     have hT0:T=0:=by have:=hTf.1;omega
     subst hT0
     clear ho hT hTf
     go_wp2_with (go_at_call 76;refine (HAL.out _).mono ?_;rintro e w4 ⟨rfl,rfl⟩)
     go_ret
     exact ⟨ret_b (by rw[HN.out];rfl),HNO.out _ (HGV.out.trans HG7.out) HN.out⟩
    ·
     rw[if_neg hT1] at ho
     have HON:=Lib.hid ho
     have hT0:¬T=0:=by omega
     have HWR:=Lib.hid (xwr_any q hlt t v (by omega) (by omega) (by have:=HVB.out;omega) (by have:=HVB.out;omega) (by omega) _ (H0.out.gr (HGV.out.trans HG7.out)))
     rw[←hT] at HWR
     have HTT:=Lib.hid (And.intro hTf hT)
     have HOL:Hid (¬Xch X R w.heap.size):=Lib.hid (fun e=>by
      rcases e with e|e
      ·
       have:=H0.out.fs.lX;omega
      ·
       have:=H0.out.fs.lR _ e;omega)
     clear ho hT hTf
     go_upto_region 12 with (first|(go_at_call 76;refine (HAL.out _).mono ?_;rintro e w4 ⟨rfl,rfl⟩)|(go_at_call 87;refine HWR.out.mono ?_;rintro e w8 ⟨rfl,R8,n8,hn8,hf8,hk8,hr8⟩;have j0:=(hk8.cell (a:=⟨w.heap.size,0,none⟩) hz7 HOL.out).trans i0;have hz8:=Nat.lt_of_lt_of_le hz7 hk8.size;have H8:=Lib.hid (And.intro hn8 (And.intro hf8 (And.intro hk8 hr8)));clear hn8 hf8 hk8 hr8))
     have HG8:=Lib.hid (HGV.out.trans HG7.out)
     have HK8:=Lib.hid ((Kp.of_gr (Xch X R) HG8.out).trans H8.out.2.2.1 (fun _ _ e=>e))
     have HB:Hid (n+3+3*(m.length-(q+1))≤n+27):=Lib.hid (by have:=HF.out.l8;omega)
     have HT:=HTT.out.2
     have HX8:Hid (XfM Y w8 B X R8 room n8 ag xf (some ad) c m (layS m D q T v)):=Lib.hid H8.out.2.1
     clear HT
     go_loopw [9] (fun k wq=>∃(f:Nat) (Rq:Option Nat) (nq:Nat) (Dq:List UInt8),q≤f∧f<m.length∧k= .int .i64 f∧nq+3*(m.length-(f+1))≤n+27∧XfM Y wq B X Rq room nq ag xf (some ad) c m Dq∧Kp (Xch X R) w wq∧(∀z,Rq=some z→R=some z∨W7.heap.size≤z)∧W7.heap.size≤wq.heap.size∧wq.cell? ⟨w.heap.size,0,none⟩=some (.int .i64 t)∧Hid (o=some (upS ag xf m t (f+1) (m.length-(f+1)) Dq))) (fun k _=>m.length-(intOf k).toNat)
     case atStart=>exact ⟨q,R8,n8,layS m D q T v,Nat.le_refl _,hlt,rfl,by have:=H8.out.1;have:=HB.out;omega,HX8.out,HK8.out,H8.out.2.2.2,H8.out.2.2.1.size,j0,HON⟩
     case round=>
      obtain ⟨f,Rq,nq,Dq,hqf,hfl,rfl,hnq,hfi,hkp,hRq,hzq,l0,HUP⟩:=hrel
      have l4:=hfi.bc.2.2.2.2
      have HDN:Hid (∀(w9:World) (R9:Option Nat) (n9:Nat) (D9:List UInt8),n9≤n+27→XfM Y w9 B X R9 room n9 ag xf (some ad) c m D9→Kp (Xch X R) w w9→(∀z,R9=some z→R=some z∨w.heap.size≤z)→o=some D9→o.isSome=true∧∃(R':Option Nat) (n':Nat),n'≤n+27∧XfM Y w9 B X R' room n' ag xf (some ad) c m (o.getD D)∧Kp (Xch X R) w w9∧∀j,R'=some j→R=some j∨w.heap.size≤j):=Lib.hid (fun w9 R9 n9 D9 e1 e2 e3 e4 e5=>⟨by rw[e5];rfl,R9,n9,e1,by rw[e5];exact e2,e3,e4⟩)
      have hzl:=Nat.lt_of_lt_of_le hz7 hzq
      have hRl:∀z,Rq=some z→R=some z∨w.heap.size≤z:=fun z e=>(hRq z e).elim .inl (fun e=> .inr (by omega))
      have hxn:¬Xch X Rq w.heap.size:=fun e=>by
       rcases e with e|e
       ·
        exact HOL.out (.inl e)
       ·
        rcases hRq _ e with e|e
        ·
         exact HOL.out (.inr e)
        ·
         omega
      have hfi8:(f:Int)<8:=by omega
      have hwf:IntKind.i64.wrap ((f:Int)+1)=(f:Int)+1:=IntWalk.i64_in _ (by omega)
      by_cases hl2:f+1<m.length
      ·
       have hli:(f:Int)+1<(m.length:Int):=by omega
       obtain ⟨og,hog⟩:∃og,og=gathS ag xf m Dq (f+1) t:=⟨_,rfl⟩
       have hga:=xpass_any f hl2 t (by omega) (by omega) (by omega) wr hfi
       rw[←hog] at hga
       have HGA:=Lib.hid hga
       obtain ⟨r,hr⟩:∃r,r=m.length-(f+1+1):=⟨_,rfl⟩
       have hr1:m.length-(f+1)=r+1:=by omega
       have HLE:=Lib.hid (And.intro hqf (And.intro hl2 (And.intro hnq (And.intro hr hr1))))
       have HKP:=Lib.hid (And.intro hkp (And.intro hRl (And.intro hfi hRq)))
       rw[hr1] at HUP
       cases og with
       | none=>
        have HE:=Lib.hid (show o=some Dq by rw[HUP.out,upS_none hog.symm])
        clear hga hog hr hr1 hqf hnq hkp hRq hfi HUP
        go_wp2_with (go_at_call 88;refine HGA.out.mono ?_;rintro e w9 ⟨rfl,g9⟩;have HG9:=Lib.hid g9;clear g9)
        go_ret
        have h9:=HDN.out w9 Rq nq Dq (by have:=HLE.out;omega) (HKP.out.2.2.1.gr HG9.out) (HKP.out.1.trans (Kp.of_gr (Xch X R) HG9.out) (fun _ _ e=>e)) HKP.out.2.1 HE.out
        exact ⟨ret_b h9.1.symm,h9.2⟩
       | some D9=>
        have HE:Hid (o=some (upS ag xf m t (f+1+1) (m.length-(f+1+1)) D9)):=Lib.hid (by rw[HUP.out,upS_some hog.symm,hr])
        clear hga hog hr hr1 hqf hnq hkp hRq hfi HUP
        go_wp2_with (go_at_call 88;refine HGA.out.mono ?_;rintro e w9 ⟨rfl,R9,n9,hn9,hf9,hk9,hr9⟩;have k0:=(hk9.cell (a:=⟨w.heap.size,0,none⟩) hzl hxn).trans l0;have H9:=Lib.hid (And.intro hn9 (And.intro hf9 (And.intro hk9 hr9)));clear hn9 hf9 hk9 hr9)
        go_roundw
        case rel=>exact ⟨f+1,R9,n9,D9,by have:=HLE.out.1;omega,hl2,by go_num,by have:=H9.out.1;have:=HLE.out;omega,H9.out.2.1,HKP.out.1.trans H9.out.2.2.1 (xch_sub HKP.out.2.1),fun z hz=>(H9.out.2.2.2 z hz).elim (HKP.out.2.2.2 z) (fun e=> .inr (Nat.le_trans hzq e)),Nat.le_trans hzq H9.out.2.2.1.size,k0,HE⟩
        case measure=>have:=HLE.out.2.1;simp[intOf];omega
      ·
       have hfe:f+1=m.length:=by omega
       have hli:¬(f:Int)+1<(m.length:Int):=by omega
       have hE:o=some Dq:=by rw[HUP.out,←hfe,Nat.sub_self];rfl
       have h9:=HDN.out wr Rq nq Dq (by omega) hfi hkp hRl hE
       have H9:=Lib.hid h9
       clear h9 hE hfi hkp hRq hnq hfe
       go_wp2
       go_ret
       exact ⟨ret_b H9.out.1.symm,H9.out.2⟩
   ·
    have hdg:decide (sc≤now-t)=true:=decide_eq_true (by omega)
    have HPR2:Hid (∀j (hj:j<m.length),j<q+1→reachB m[j] t now=false):=Lib.hid (fun j hj e=>by
     rcases Nat.lt_or_ge j q with e2|e2
     ·
      exact HPR.out j hj e2
     ·
      have e3:j=q:=by omega
      subst e3
      rw[HSC.out.2.2.2,decide_eq_false hrc])
    go_wp2
    go_roundw
    case rel=>exact ⟨q+1,by omega,by go_num,HK7.out,HPR2⟩
    case measure=>simp[intOf];omega
  ·
   have hqe:q=m.length:=by omega
   subst hqe
   have HN:=Lib.hid (show o=none by rw[HO.out,if_pos (first_none (fun j hj=>HPR.out j hj hj))])
   have HG:=Lib.hid (HGV.out.trans HGR.out)
   clear hgr HPR
   go_wp2
   go_ret
   exact ⟨ret_b (by rw[HN.out];rfl),HNO.out _ HG.out HN.out⟩
theorem rhsize_any (ag xf:Int) (A:Option Addr) (c:Nat) (l:List (Int×Int)) (w:World) (hr:Ri w A l):Calls Tryz.prog 30 #[.agg #[.int .i64 ag, .int .i64 xf, .slice A l.length c]] w fun e w'=>e= .returned (.int .i64 (bif mayH ag xf l then (sizeS (nats l):Nat) else 0))∧Gr w w':=by
 obtain ⟨V,hV⟩:∃V,V=w.alloc (.cells #[.int .i64 ag, .int .i64 xf, .slice A l.length c] 24):=⟨_,rfl⟩
 have gV:Gr w V:=by rw[hV];exact Gr.alloc (Gr.refl w) _
 have hz:w.heap.size<V.heap.size:=by rw[hV];simp
 have c0:V.cell? ⟨w.heap.size,0,none⟩=some (.int .i64 ag):=by rw[hV];go_simp
 have c1:V.cell? ⟨w.heap.size,1,none⟩=some (.int .i64 xf):=by rw[hV];go_simp
 have c2:V.cell? ⟨w.heap.size,2,none⟩=some (.slice A l.length c):=by rw[hV];go_simp
 have HV:=Lib.hid hV
 have HG:=Lib.hid gV
 have HR:=Lib.hid (hr.gr gV)
 have hck:=fun W (hW:Ri W A l)=>rmay_any ag xf A c l W hW
 clear hV gV hr
 cases hM:mayH ag xf l
 ·
  rw[hM] at hck
  have HCK:=Lib.hid hck
  clear hck hM
  go_enter Tryz.func30,Tryz.ntmps30
  go_upto_region 1 with (fail)
  rw[←HV.out]
  clear HV
  go_wp2_with (go_at_call 6;refine (HCK.out _ HR.out).mono ?_;rintro e w1 ⟨rfl,g1⟩;have d0:=(Below.cell g1 (p:=⟨w.heap.size,0,none⟩) hz).trans c0;have d1:=(Below.cell g1 (p:=⟨w.heap.size,1,none⟩) hz).trans c1;have d2:=(Below.cell g1 (p:=⟨w.heap.size,2,none⟩) hz).trans c2;have hz1:=Nat.lt_of_lt_of_le hz g1.size;have HG1:=Lib.hid (HG.out.trans g1);have HR1:=Lib.hid (HR.out.gr g1);clear c0 c1 c2 hz g1 HG HR)
  go_ret
  exact ⟨rfl,HG1.out⟩
 ·
  rw[hM] at hck
  obtain ⟨m,rfl,hm, -⟩:=mayH_nat hM
  have hml:=ints_len m
  rw[hml] at c2 HV hck ⊢
  have HCK:=Lib.hid hck
  rw[nats_ints]
  have hf:=mayS_facts hm
  have HB:=Lib.hid (And.intro hf.2.1 (fun (a:Nat×Nat) (ha:a∈m)=>(by obtain ⟨k,h,rfl⟩:=List.mem_iff_getElem.1 ha;exact (hf.2.2.2.2 k h).2.2.2:a.2≤16777216)))
  clear hck hM hf hm hml
  go_enter Tryz.func30,Tryz.ntmps30
  go_upto_region 1 with (fail)
  rw[←HV.out]
  clear HV
  go_wp2_with (go_at_call 6;refine (HCK.out _ HR.out).mono ?_;rintro e w1 ⟨rfl,g1⟩;have d0:=(Below.cell g1 (p:=⟨w.heap.size,0,none⟩) hz).trans c0;have d1:=(Below.cell g1 (p:=⟨w.heap.size,1,none⟩) hz).trans c1;have d2:=(Below.cell g1 (p:=⟨w.heap.size,2,none⟩) hz).trans c2;have hz1:=Nat.lt_of_lt_of_le hz g1.size;have HG1:=Lib.hid (HG.out.trans g1);have HR1:=Lib.hid (HR.out.gr g1);clear c0 c1 c2 hz g1 HG HR)
  go_loopw [4,3] (fun i n wr=>∃k:Nat,k≤m.length∧i= .int .i64 k∧n= .int .i64 (sizeS (m.take k):Nat)∧Gr w1 wr) (fun i _ _=>m.length-(intOf i).toNat)
  case atStart=>exact ⟨0,Nat.zero_le _,rfl,rfl,Gr.refl _⟩
  case round=>
   obtain ⟨k,hk,rfl,rfl,hgr⟩:=hrel
   have e2:=(Below.cell hgr (p:=⟨w.heap.size,2,none⟩) hz1).trans d2
   by_cases hlt:k<m.length
   ·
    have hlt':(k:Int)<(m.length:Int):=by omega
    obtain ⟨ad,rfl,hb,hc⟩:=(HR1.out.gr hgr) (by rw[ints_len];omega)
    obtain ⟨p0,p1⟩:=hc k (by rw[ints_len];omega)
    rw[ints_at m k hlt] at p0 p1
    simp only at p0 p1
    have hs:=sizeS_take hlt
    have hb1:=HB.out.2 m[k] (List.getElem_mem hlt)
    have hb2:=sizeS_bound (m.take (k+1)) (fun a ha=>HB.out.2 a (List.mem_of_mem_take ha))
    have h8:=HB.out.1
    rw[List.length_take,Nat.min_eq_left (by omega)] at hb2
    have HS:=Lib.hid hs
    have Hgr:=Lib.hid hgr
    generalize m[k].1=x1 at *
    generalize m[k].2=x2 at *
    obtain ⟨N,hN⟩:∃N,N=sizeS (m.take k):=⟨_,rfl⟩
    rw[←hN] at HS ⊢
    have hNi:(N:Int)+(12+12*(x2:Int))≤2000000000:=by have:=HS.out;omega
    have hx2:(x2:Int)≤16777216:=by omega
    have h8i:(m.length:Int)≤8:=by omega
    clear hc hs hb1 hb2 hgr hN h8 d0 d1 d2
    go_wp2
    go_roundw
    case rel=>exact ⟨k+1,by omega,by go_num,by rw[HS.out];go_num,gq⟩
    case measure=>simp[intOf];omega
   ·
    have hkk:k=m.length:=by omega
    subst hkk
    have HK:=Lib.hid hgr
    clear hgr d0 d1 d2
    go_wp2
    go_ret
    exact ⟨ret_i (by rw[List.take_length];rfl),HG1.out.trans HK.out⟩
def smallB (ag xf:Int) (l:List (Int×Int)):Bool:=mayH ag xf l&&Nat.ble (sizeS (nats l)) 3000
theorem small_any (ag xf:Int) (A:Option Addr) (c:Nat) (l:List (Int×Int)) (w:World) (hr:Ri w A l):Calls Tryz.prog 7 #[.agg #[.int .i64 ag, .int .i64 xf, .slice A l.length c]] w fun e w'=>e= .returned (.bool (smallB ag xf l))∧Gr w w':=by
 obtain ⟨V,hV⟩:∃V,V=w.alloc (.cells #[.int .i64 ag, .int .i64 xf, .slice A l.length c] 24):=⟨_,rfl⟩
 have gV:Gr w V:=by rw[hV];exact Gr.alloc (Gr.refl w) _
 have hz:w.heap.size<V.heap.size:=by rw[hV];simp
 have c0:V.cell? ⟨w.heap.size,0,none⟩=some (.int .i64 ag):=by rw[hV];go_simp
 have c1:V.cell? ⟨w.heap.size,1,none⟩=some (.int .i64 xf):=by rw[hV];go_simp
 have c2:V.cell? ⟨w.heap.size,2,none⟩=some (.slice A l.length c):=by rw[hV];go_simp
 have HV:=Lib.hid hV
 have HG:=Lib.hid gV
 have HR:=Lib.hid (hr.gr gV)
 have hck:=fun W (hW:Ri W A l)=>rmay_any ag xf A c l W hW
 have hsz:=fun W (hW:Ri W A l)=>rhsize_any ag xf A c l W hW
 unfold smallB
 clear hV gV hr
 cases hM:mayH ag xf l
 ·
  rw[hM] at hck
  have HCK:=Lib.hid hck
  clear hck hM hsz
  go_enter Tryz.func7,Tryz.ntmps7
  go_upto_region 1 with (fail)
  rw[←HV.out]
  clear HV
  go_wp2_with (go_at_call 6;refine (HCK.out _ HR.out).mono ?_;rintro e w1 ⟨rfl,g1⟩;have d0:=(Below.cell g1 (p:=⟨w.heap.size,0,none⟩) hz).trans c0;have d1:=(Below.cell g1 (p:=⟨w.heap.size,1,none⟩) hz).trans c1;have d2:=(Below.cell g1 (p:=⟨w.heap.size,2,none⟩) hz).trans c2;have hz1:=Nat.lt_of_lt_of_le hz g1.size;have HG1:=Lib.hid (HG.out.trans g1);have HR1:=Lib.hid (HR.out.gr g1);clear c0 c1 c2 hz g1 HG HR)
  go_ret
  exact ⟨rfl,HG1.out⟩
 ·
  rw[hM] at hck hsz
  have HCK:=Lib.hid hck
  obtain ⟨S,hS⟩:∃S,S=sizeS (nats l):=⟨_,rfl⟩
  simp only[cond_true] at hsz
  rw[←hS] at hsz ⊢
  have HSZ:=Lib.hid hsz
  clear hck hM hsz hS
  by_cases hb:S≤3000
  ·
   have hbi:(S:Int)≤3000:=by omega
   have HB:Hid ((true&&Nat.ble S 3000)=true):=Lib.hid (by rw[Bool.true_and,Nat.ble_eq];exact hb)
   clear hb
   go_enter Tryz.func7,Tryz.ntmps7
   go_upto_region 1 with (fail)
   rw[←HV.out]
   clear HV
   go_wp2_with (first|(go_at_call 6;refine (HCK.out _ HR.out).mono ?_;rintro e w1 ⟨rfl,g1⟩;have d0:=(Below.cell g1 (p:=⟨w.heap.size,0,none⟩) hz).trans c0;have d1:=(Below.cell g1 (p:=⟨w.heap.size,1,none⟩) hz).trans c1;have d2:=(Below.cell g1 (p:=⟨w.heap.size,2,none⟩) hz).trans c2;have hz1:=Nat.lt_of_lt_of_le hz g1.size;have HG1:=Lib.hid (HG.out.trans g1);have HR1:=Lib.hid (HR.out.gr g1);clear c0 c1 c2 hz g1 HG HR)|(go_at_call 30;refine (HSZ.out _ HR1.out).mono ?_;rintro e w2 ⟨rfl,g2⟩;have HG2:=Lib.hid (HG1.out.trans g2);clear g2))
   go_ret
   exact ⟨ret_b (Eq.trans (by first|exact decide_eq_false (by omega)|exact decide_eq_true (by omega)|rfl) HB.out.symm),HG2.out⟩
  ·
   have hbi:¬(S:Int)≤3000:=by omega
   have HB:Hid ((true&&Nat.ble S 3000)=false):=Lib.hid (by rw[Bool.true_and,Bool.eq_false_iff,ne_eq,Nat.ble_eq];exact hb)
   clear hb
   go_enter Tryz.func7,Tryz.ntmps7
   go_upto_region 1 with (fail)
   rw[←HV.out]
   clear HV
   go_wp2_with (first|(go_at_call 6;refine (HCK.out _ HR.out).mono ?_;rintro e w1 ⟨rfl,g1⟩;have d0:=(Below.cell g1 (p:=⟨w.heap.size,0,none⟩) hz).trans c0;have d1:=(Below.cell g1 (p:=⟨w.heap.size,1,none⟩) hz).trans c1;have d2:=(Below.cell g1 (p:=⟨w.heap.size,2,none⟩) hz).trans c2;have hz1:=Nat.lt_of_lt_of_le hz g1.size;have HG1:=Lib.hid (HG.out.trans g1);have HR1:=Lib.hid (HR.out.gr g1);clear c0 c1 c2 hz g1 HG HR)|(go_at_call 30;refine (HSZ.out _ HR1.out).mono ?_;rintro e w2 ⟨rfl,g2⟩;have HG2:=Lib.hid (HG1.out.trans g2);clear g2))
   go_ret
   exact ⟨ret_b (Eq.trans (by first|exact decide_eq_false (by omega)|exact decide_eq_true (by omega)|rfl) HB.out.symm),HG2.out⟩
end Go.Proofs.YtoncapkmaeghfaaGreat
