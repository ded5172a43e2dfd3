import Derived.Test.YtnphdacibageiaaGreatRunRxPiece
import Derived.Test.YtnphdacibageiaaGreatRunRxFail
import Derived.Great.BuildSlice
import Derived.WalkKit
set_option linter.all false
set_option maxRecDepth 1000000
set_option maxHeartbeats 12800000
namespace Go.Proofs.YtnphdacibageiaaGreat
open Go.RowKit
theorem own_gx {w w':World} {R base:Nat} {e:TypeId} {size n:Nat} {v:Value} {xs:List Value} (h:w.ownsRow base e size v n xs) (x:GX R w w') (hR:R<base):w'.ownsRow base e size v n xs:=by
 obtain ⟨h1,⟨hv,h0⟩|⟨g',cap,cur,hv,hb,hh,h2⟩⟩:=h
 ·
  exact ⟨h1, .inl ⟨hv,h0⟩⟩
 ·
  exact ⟨h1, .inr ⟨g',cap,cur,hv,hb,(x.block g' (Array.getElem?_eq_some_iff.1 hh).1 (by omega)).trans hh,h2⟩⟩
theorem GX.grown {R:Nat} {w0 w w':World} {row:Option Nat} (x:GX R w0 w) (g:w.grownBy w' row) (hr:∀j,row=some j→w0.heap.size≤j):GX R w0 w':=by
 have x':=x
 obtain ⟨g1,g2,g3,g4,g5⟩:=g
 refine ⟨g1.trans x.os,g2.trans x.tape,g3.trans x.output,Nat.le_trans x.size g4,fun i hi hn=>(g5 i (Nat.lt_of_lt_of_le hi x.size) (fun e=>?_)).trans (x.block i hi hn)⟩
 have:=hr i e.symm
 omega
theorem Rdr.grown {w w':World} {R n:Nat} {s:ByteArray} {q:Rs} {row:Option Nat} (h:Rdr w R s n q) (x:w.grownBy w' row) (hn:row≠some R):Rdr w' R s n q:=by
 have e:w'.heap[R]?=w.heap[R]?:=x.block R h.lt (fun e=>hn e.symm)
 have hx:∀i,w'.cell? ⟨R,i,none⟩=w.cell? ⟨R,i,none⟩:=fun i=>World.cell?_of_block (a:=⟨R,i,none⟩) e
 have hy:∀i,w'.frozen? ⟨R,i,none⟩=w.frozen? ⟨R,i,none⟩:=fun i=>World.frozen?_of_block (a:=⟨R,i,none⟩) e
 exact ⟨h.len,h.rest,(hx 0).trans h.c0,(hx 1).trans h.c1,(hx 2).trans h.c2,(hx 3).trans h.c3,(hx 4).trans h.c4,(hx 5).trans h.c5,(hy 1).trans h.f1,(hy 2).trans h.f2,(hy 3).trans h.f3,(hy 4).trans h.f4,(hy 5).trans h.f5,Nat.lt_of_lt_of_le h.lt x.size⟩
theorem NS.set {P k c k' c':Nat} {A A':Option Addr} {W:World} (h:NS P A k c W):NS P A' k' c' (W.setCell ⟨P,2,none⟩ (.slice A' k' c')):=by
 obtain ⟨⟨n0,n1,n2,n3,n4⟩,hf,hz⟩:=h
 refine ⟨⟨(World.cell?_setCell_other W ⟨P,2,none⟩ ⟨P,0,none⟩ _ (by simp)).trans n0,(World.cell?_setCell_other W ⟨P,2,none⟩ ⟨P,1,none⟩ _ (by simp)).trans n1,?_,(World.cell?_setCell_other W ⟨P,2,none⟩ ⟨P,3,none⟩ _ (by simp)).trans n3,(World.cell?_setCell_other W ⟨P,2,none⟩ ⟨P,4,none⟩ _ (by simp)).trans n4⟩,by simpa using hf,by simpa using hz⟩
 go_simp
theorem Kids.set {B:Nat} {g:Option Nat} {w:World} {l:List Pc} {bs:List Nat} (h:Kids (some B) g w l bs) (u:Value) (i:Nat):Kids (some B) g (w.setCell ⟨B,i,none⟩ u) l bs:=
 ⟨h.1,fun j hj hj'=>by
  obtain ⟨lo,hi,k,kb,kh,kg⟩:=h.2 j hj hj'
  exact ⟨lo,hi,Pc.In.same (Same.set kh (.inl (kb B rfl)) u) _ _ k,kb,by simpa using kh,kg⟩⟩
structure RowI (R:Nat) (w0:World) (s:ByteArray) (Wf:Rs→Pc×Rs) (T:PcL×Rs) (P:Nat) (wr:World) (m:Nat) (q:Rs) (k N c:Nat) (A:Option Addr) (l:List Pc) (bs:List Nat):Prop where
 h:Rdr wr R s m q
 x:GX R w0 wr
 ns:NS P A N c wr
 own:wr.ownsRow (P+1) 78 1 (.slice A N c) N (ptrs bs)
 kids:Kids (some P) (Value.slice A N c).ownBlock wr l bs
 hN:N=bs.length
 hP:w0.heap.size≤P
 hc:Hid ((PcL.ofList l).app (rowS Wf k q).1=T.1∧(rowS Wf k q).2=T.2)
theorem RowI.ret {R:Nat} {w0:World} {s:ByteArray} {Wf:Rs→Pc×Rs} {T:PcL×Rs} {P:Nat} {wr:World} {m:Nat} {q:Rs} {k N c:Nat} {A:Option Addr} {l:List Pc} {bs:List Nat}
  (I:RowI R w0 s Wf T P wr m q k N c A l bs) (hR:R<w0.heap.size) (e:rowS Wf k q=(.nil,q)):RetP R s w0 (.row T.1) T.2 (.returned (.pointer (some ⟨P,0,none⟩))) wr:=by
 have hc:=I.hc.out
 rw[e] at hc
 simp only[PcL.app_nil] at hc
 rw[←hc.1,←hc.2]
 refine ⟨P,m,rfl,?_,I.x,I.h⟩
 have hP:=I.hP
 have hN:=I.hN
 simp only[Pc.In]
 refine ⟨by omega,I.ns.2.2, .slice A N c,bs,I.ns.1,⟨A,c,by rw[hN],?_,fun h0 ad ha=>?_⟩,PcL.In.wide (by omega) (Nat.le_refl _) _ _ I.kids.list⟩
 ·
  have:=Rd.own I.own
  rw[hN] at this
  exact this
 ·
  obtain ⟨_,⟨hv,h0'⟩|⟨g',cap,cur,hv,hb,hh,_⟩⟩:=I.own
  ·
   omega
  ·
   injection hv with hv1 _ _
   rw[ha] at hv1
   injection hv1 with hv1
   subst hv1
   exact ⟨by show w0.heap.size-1<g';omega,(Array.getElem?_eq_some_iff.1 hh).1⟩
theorem RowI.gr {R:Nat} {w0:World} {s:ByteArray} {Wf:Rs→Pc×Rs} {T:PcL×Rs} {P:Nat} {wr w':World} {m:Nat} {q:Rs} {k N c:Nat} {A:Option Addr} {l:List Pc} {bs:List Nat}
  (I:RowI R w0 s Wf T P wr m q k N c A l bs) (g:Gr wr w'):RowI R w0 s Wf T P w' m q k N c A l bs:=
 ⟨I.h.gr g,I.x.trans (GX.of_gr g),I.ns.gr g,own_gx I.own (GX.of_gr (R:=P) g) (Nat.lt_succ_self _),I.kids.gr g,I.hN,I.hP,I.hc⟩
theorem row_any {w:World} {R n0:Nat} {s:ByteArray} {q:Rs} (Wf:Rs→Pc×Rs) (hWf:∀s,Gd 0 s (Wf s).2) (h:Rdr w R s n0 q) (hs:(s.size:Int)≤4096) (n:Nat) (hn:q.rest.length≤n) (hB:BdX q)
  (HP:∀W m q c r,Rdr W R s m q→q.rest=c::r→q.rest.length≤n→BdX q→Calls Tryz.prog 107 #[.pointer (some ⟨R,0,none⟩)] W (RetP R s W (pieceS Wf q).1 (pieceS Wf q).2)) :
  Calls Tryz.prog 78 #[.pointer (some ⟨R,0,none⟩)] w (RetP R s w (rowP Wf q).1 (rowP Wf q).2):=by
 obtain ⟨i0,hi0,hz0,hz1,hz2⟩:=info_parts info_ptr
 unfold rowP
 obtain ⟨T,hT⟩:∃T,rowS Wf (q.rest.length+1) q=T:=⟨_,rfl⟩
 rw[hT]
 have hR:=h.lt
 have I0:RowI R w s Wf T w.heap.size (w.alloc (.cells #[.int .i64 10, .string ⟨#[]⟩, .slice none 0 0, .int .i64 0, .bool false] 112)) n0 q (q.rest.length+1) 0 0 none [] []:=
  ⟨h.gr (Gr.alloc (Gr.refl w) _),GX.of_gr (Gr.alloc (Gr.refl w) _),⟨node_new w 10 0 [] _ false,by go_simp,by simp⟩,World.ownsRow_nil _ _ _ _,Kids.nil _ _ _,rfl,Nat.le_refl _,Lib.hid (by rw[hT];exact ⟨rfl,rfl⟩)⟩
 generalize hPP:w.heap.size=P at I0
 clear hT
 go_enter Tryz.func78,Tryz.ntmps78
 go_upto_region 2 with (fail)
 generalize (w.alloc (.cells #[.int .i64 10, .string ⟨#[]⟩, .slice none 0 0, .int .i64 0, .bool false] 112))=w1 at I0 ⊢
 go_loopw [] (fun wr=>∃m q k N c A l bs,RowI R w s Wf T P wr m q k N c A l bs∧q.rest.length<k∧q.rest.length≤n∧BdX q∧N≤m) (fun wr=>s.size-rdN R wr)
 case atStart=>exact ⟨n0,q,_,0,0,none,[],[],I0,Nat.lt_succ_self _,hn,hB,Nat.zero_le _⟩
 case round=>
  clear I0 hn hB h
  obtain ⟨m,q,k,N,c,A,l,bs,I,hk,hqn,hB,hNm⟩:=hrel
  obtain ⟨k,rfl⟩:∃j,k=j+1:=⟨k-1,by omega⟩
  have Hmn:=Lib.hid I.h.n
  have hlen:=I.h.len
  obtain ⟨c4,f4⟩:=And.intro I.h.c4 I.h.f4
  rcases Bool.eq_false_or_eq_true q.bad with hb|hb
  ·
   rw[hb] at c4
   go_wp2
   have e1:rowS Wf (k+1) q=(.nil,q):=by
    unfold rowS
    rw[hb]
    rfl
   go_ret
   exact I.ret hR e1
  ·
   rw[hb] at c4
   rcases hq:q.rest with _|⟨d,r⟩
   ·
    have QN:=now_end I.h hs hq
    go_wp2_with (go_at_call 106;refine QN.mono ?_;rintro e w4 ⟨rfl,g4⟩)
    have I:=I.gr g4
    have e1:rowS Wf (k+1) q=(.nil,q):=by
     unfold rowS
     rw[hb,hq]
     rfl
    go_ret
    exact I.ret hR e1
   ·
    have QN:=now_some I.h hs hq
    by_cases h124:d.toNat=124
    ·
     simp only[h124] at QN
     go_wp2_with (go_at_call 106;refine QN.mono ?_;rintro e w4 ⟨rfl,g4⟩)
     have I:=I.gr g4
     have e1:rowS Wf (k+1) q=(.nil,q):=by
      unfold rowS
      rw[hb,hq,show endR (d::r)=true by simp[endR,h124]]
      rfl
     go_ret
     exact I.ret hR e1
    ·
     by_cases h41:d.toNat=41
     ·
      simp only[h41] at QN
      go_wp2_with (go_at_call 106;refine QN.mono ?_;rintro e w4 ⟨rfl,g4⟩)
      have I:=I.gr g4
      have e1:rowS Wf (k+1) q=(.nil,q):=by
       unfold rowS
       rw[hb,hq,show endR (d::r)=true by simp[endR,h41]]
       rfl
      go_ret
      exact I.ret hR e1
     ·
      have hend:endR (d::r)=false:=by simp[endR,h124,h41]
      have k124:((d.toNat:Int)==124)=false:=beq_eq_false_iff_ne.2 (by omega)
      have k41:((d.toNat:Int)==41)=false:=beq_eq_false_iff_ne.2 (by omega)
      have e1:rowS Wf (k+1) q=(.cons (pieceS Wf q).1 (rowS Wf k (pieceS Wf q).2).1,(rowS Wf k (pieceS Wf q).2).2):=by
       conv=>lhs;unfold rowS
       rw[hb,hq,hend]
       rfl
      go_upto_region 5 with (go_at_call 106;refine QN.mono ?_;rintro e w4 ⟨rfl,g4⟩)
      have I:=(I.gr g4).gr (Gr.drew (Gr.refl _))
      obtain ⟨V,hV⟩:∃V,V=w4.drew:=⟨_,rfl⟩
      refine wp_region_Z 11 (NS P A N c) (by kernel_rfl) ?_
      rw[←hV] at I ⊢
      clear hV g4 QN c4 f4
      obtain ⟨hpg,hpl⟩:=pieceS_gd hWf hq
      have hl1:q.rest.length=r.length+1:=by rw[hq];rfl
      obtain ⟨hV2,xw0,hS0,own0,kids0,hN,hP,hc⟩:=I
      have HN:=Lib.hid hN
      clear hN
      have hvo:=own0.lt
      have hPR:P≠R:=by omega
      have hPV:=hS0.2.2
      refine zt 0 rfl hS0 (fun W hS=>by go_simp;rfl) ?_
      refine zt 1 rfl hS0 (fun W hS=>by go_simp;rfl) ?_
      refine zt 2 rfl hS0 (fun W hS=>by go_simp;rfl) ?_
      refine zt 3 rfl hS0 (fun W hS=>by go_simp;rfl) ?_
      refine zt 4 rfl hS0 (fun W hS=>by obtain ⟨⟨p0,p1,p2,p3,p4⟩,_,_⟩:=hS;go_simp;rfl) ?_
      refine zt 5 rfl hS0 (fun W hS=>by go_simp;rfl) ?_
      refine zs 6 rfl (fun K hK=>?_)
      go_simp
      refine (HP _ _ _ _ _ hV2 hq hqn hB).mono ?_;rintro e w5 ⟨b,m5,rfl,k5,x5,h5⟩
      have hS5:=hS0.gx x5 hPR
      have own5:=own_gx own0 x5 (by omega)
      have kids5:=kids0.gx x5 (by omega)
      have xw5:=xw0.trans x5
      have z5:=x5.size
      go_wp2_with fail
      refine hK.out _ _ (fun hnz=>?s7) (fun _=>?r7)
      case s7=>exact hS5
      clear hK K
      try simp only[Pu]
      refine zs 7 rfl (fun K hK=>?_)
      have gA:Gr w5 (w5.alloc (.cells #[.pointer (some ⟨b,0,none⟩)] 78)):=Gr.alloc (Gr.refl w5) _
      have hS6:=hS5.gr gA
      have own6:=own_gx own5 (GX.of_gr (R:=R) gA) (by omega)
      have kids6:=kids5.gr gA
      have hrx:Rd (w5.alloc (.cells #[.pointer (some ⟨b,0,none⟩)] 78)) 1 (some ⟨w5.heap.size,0,none⟩) 1 (ptrs [b]):=Rd.byte (W:=w5) rfl 78 (.pointer (some ⟨b,0,none⟩))
      have k6:=Pc.In.same (Same.gr gA (Nat.le_refl _)) _ _ k5
      have xw6:=xw5.alloc (.cells #[.pointer (some ⟨b,0,none⟩)] 78)
      have h6:=h5.gr gA
      have z6:(w5.alloc (.cells #[.pointer (some ⟨b,0,none⟩)] 78)).heap.size=w5.heap.size+1:=by simp
      go_simp
      refine hK.out _ _ (fun hnz=>?s8) (fun _=>?r8)
      case s8=>exact hS6
      clear hK K
      try simp only[Pu]
      clear gA hS5 own5 kids5 k5 xw5 h5
      generalize (w5.alloc (.cells #[.pointer (some ⟨b,0,none⟩)] 78))=w6 at hS6 own6 kids6 hrx k6 xw6 h6 z6 ⊢
      refine zs 8 rfl (fun K hK=>?_)
      have hvl:=own6.lt
      refine wp_append_rdX (.tmp 34) (.tmp 37) 109 rfl (P+1) 78 i0 _ 1 8 Tryz.underlying109 hi0 hz0 hz1 hz2 rfl (by decide) _ N _ rfl own6 ⟨w5.heap.size,0,none⟩ 1 _ (ptrs [b]) rfl hrx (by decide) (ptrs_one _) (by unfold maxLen;omega) (by omega) (by omega) ?_
      intro v' w9 own9 hgr9 hob9
      obtain ⟨A9,c9,hv9⟩:=own_form own9
      subst hv9
      have hS9:=hS6.grown hgr9 (fun e=>by have:=hvl _ e;omega)
      have xw9:=xw6.grown hgr9 (fun j hj=>by have:=hvl j hj;omega)
      have h9:=h6.grown hgr9 (fun e=>by have:=hvl _ e;omega)
      have kids9:=kids6.push hgr9 hob9 k6 (by omega) (by omega) (fun j hj=>by have:=hvo j hj;omega)
      rw[←ptrs_append] at own9
      clear hS6 own6 kids6 hrx k6 xw6 h6 hgr9 hob9
      refine hK.out _ _ (fun hnz=>?s9) (fun _=>?r9)
      case s9=>exact hS9
      clear hK K
      try simp only[Pu]
      refine zt 9 rfl hS9 (fun W hS=>by go_simp;rfl) ?_
      refine zt 10 rfl hS9 (fun W hS=>by go_simp;rfl) ?_
      refine zs 11 rfl (fun K hK=>?_)
      obtain ⟨⟨p0,p1,p2,p3,p4⟩,pf,pz⟩:=id hS9
      go_simp
      refine hK.out _ _ (fun hnz=>?s12) (fun _=>?r12)
      case s12=>exact absurd rfl hnz
      clear hK K
      try simp only[Pu]
      refine wpAnyZ_done (by kernel_rfl) ?_ _
      clear p0 p1 p2 p3 p4 pf pz
      go_roundw
      case rel=>exact ⟨_,_,_,_,_,_,_,_,_,_,_,_,_,_,_,_,_,_,_,_,_,_,_,_,_,_,_,_,_,_,_,_,_,_,_,⟨m5,_,k,N+1,c9,A9,l++[(pieceS Wf q).1],bs++[b],⟨h9.other ⟨P,2,none⟩ hPR _,GX.setCell (p:=⟨P,2,none⟩) xw9 (.inr hP) _,hS9.set,own_setX own9 (p:=⟨P,2,none⟩) (Nat.lt_succ_self _) _,kids9.set _ _,by rw[HN.out];simp,hP,Lib.hid (by have:=hc.out;rw[e1] at this;rw[PcL.app_snoc];exact this)⟩,by omega,by omega,hpg.bd hB,by have:=h9.len;omega⟩,rfl⟩
      case measure=>rw[Hmn.out,(h9.other ⟨P,2,none⟩ hPR (.slice A9 (N+1) c9)).n];have:=h9.len;omega
def contS (Wf:Rs→Pc×Rs) (k:Nat) (q:Rs):PcL×Rs:=bif !q.bad&&headIs 124 q.rest then altS Wf k {q with rest:=q.rest.drop 1} else (.nil,q)
theorem altS_cont (Wf:Rs→Pc×Rs) (k:Nat) (q:Rs):altS Wf (k+1) q=(.cons (rowP Wf q).1 (contS Wf k (rowP Wf q).2).1,(contS Wf k (rowP Wf q).2).2):=by
 conv=>lhs;unfold altS
 unfold contS
 generalize rowP Wf q=t
 simp only
 cases (!t.2.bad&&headIs 124 t.2.rest)<;>rfl
structure WysI (R:Nat) (w0:World) (s:ByteArray) (Wf:Rs→Pc×Rs) (T:PcL×Rs) (wr:World) (m:Nat) (q:Rs) (k N c:Nat) (A:Option Addr) (l:List Pc) (bs:List Nat):Prop where
 h:Rdr wr R s m q
 x:GX R w0 wr
 own:wr.ownsRow w0.heap.size 78 1 (.slice A N c) N (ptrs bs)
 kids:Kids (some (w0.heap.size-1)) (Value.slice A N c).ownBlock wr l bs
 hN:N=bs.length
 hc:Hid ((PcL.ofList l).app (contS Wf k q).1=T.1∧(contS Wf k q).2=T.2)
section
variable {R:Nat} {w0:World} {s:ByteArray} {Wf:Rs→Pc×Rs} {T:PcL×Rs} {wr w':World} {m:Nat} {q:Rs} {k N c:Nat} {A:Option Addr} {l:List Pc} {bs:List Nat}
theorem WysI.gr (I:WysI R w0 s Wf T wr m q k N c A l bs) (g:Gr wr w') (hR:R<w0.heap.size):WysI R w0 s Wf T w' m q k N c A l bs:=
 ⟨I.h.gr g,I.x.trans (GX.of_gr g),own_gx I.own (GX.of_gr (R:=R) g) hR,I.kids.gr g,I.hN,I.hc⟩
theorem WysI.single {N':Nat} (I:WysI R w0 s Wf T wr m q k N' c A l bs) (h:N'=1):∃p b,l=[p]∧bs=[b]:=by
 have hN:=I.hN
 have hl:=I.kids.1
 match l,bs,hl,hN with
 | [p],[b],_,_=>exact ⟨p,b,rfl,rfl⟩
 | [],bs,hl,hN=>simp at hl;omega
 | p::p'::l,bs,hl,hN=>simp at hl;omega
theorem WysI.ret1 {p:Pc} {b:Nat} (I:WysI R w0 s Wf T wr m q k 1 c A [p] [b]) (e:contS Wf k q=(.nil,q)):RetP R s w0 (lone T.1) T.2 (.returned (.pointer (some ⟨b,0,none⟩))) wr:=by
 have hc:=I.hc.out
 rw[e] at hc
 simp only[PcL.app_nil] at hc
 rw[←hc.1,←hc.2]
 have hk:=I.kids.list
 simp only[PcL.ofList,PcL.In] at hk
 obtain ⟨b',r,e',hp,_⟩:=hk
 injection e' with e' _
 subst e'
 exact ⟨b,m,rfl,hp,I.x,I.h⟩
theorem lone_ways (l:List Pc) (h:l.length≠1):lone (PcL.ofList l)= .ways (PcL.ofList l):=by
 match l,h with
 | [],_=>rfl
 | [p],h=>simp at h
 | p::p'::l,_=>rfl
theorem WysI.ret2 (I:WysI R w0 s Wf T wr m q k N c A l bs) (e:contS Wf k q=(.nil,q)) (h1:N≠1) (hR0:R<w0.heap.size):RetP R s w0 (lone T.1) T.2 (.returned (.pointer (some ⟨wr.heap.size,0,none⟩))) (wr.alloc (.cells #[.int .i64 11, .string ⟨#[]⟩, .slice A N c, .int .i64 0, .bool false] 112)):=by
 have hc:=I.hc.out
 rw[e] at hc
 simp only[PcL.app_nil] at hc
 have hN:=I.hN
 subst hN
 rw[←hc.1,←hc.2,lone_ways l (by rw[I.kids.1];exact h1)]
 have g:Gr wr (wr.alloc (.cells #[.int .i64 11, .string ⟨#[]⟩, .slice A bs.length c, .int .i64 0, .bool false] 112)):=Gr.alloc (Gr.refl _) _
 have hx:=I.x.size
 refine ⟨wr.heap.size,m,rfl,?_,I.x.alloc _,I.h.gr g⟩
 simp only[Pc.In]
 have hR:=I.h.lt
 have hzz:w0.heap.size-1<wr.heap.size:=by omega
 refine ⟨hzz,by simp, .slice A bs.length c,bs,node_new wr 11 0 [] _ false,⟨A,c,rfl,?_,fun h0 ad ha=>?_⟩,PcL.In.wide (Nat.le_refl _) g.size _ _ (PcL.In.same (Same.gr g (Nat.le_refl _)) _ _ I.kids.list)⟩
 ·
  exact Rd.gr (Rd.own I.own) g
 ·
  obtain ⟨_,⟨hv,h0'⟩|⟨g',cap,cur,hv,hb,hh,_⟩⟩:=I.own
  ·
   omega
  ·
   injection hv with hv1 _ _
   rw[ha] at hv1
   injection hv1 with hv1
   subst hv1
   have:=(Array.getElem?_eq_some_iff.1 hh).1
   exact ⟨by show w0.heap.size-1<g';omega,by show g'<_;simp;omega⟩
end
theorem ways_row {w:World} {R n0:Nat} {s:ByteArray} {q:Rs} (Wf:Rs→Pc×Rs) (hWf:∀s,Gd 0 s (Wf s).2) (h:Rdr w R s n0 q) (hs:(s.size:Int)≤4096) (n:Nat) (hn:q.rest.length≤n) (hB:BdX q)
  (HR:∀W m q,Rdr W R s m q→q.rest.length≤n→BdX q→Calls Tryz.prog 78 #[.pointer (some ⟨R,0,none⟩)] W (RetP R s W (rowP Wf q).1 (rowP Wf q).2)) :
  Calls Tryz.prog 45 #[.pointer (some ⟨R,0,none⟩)] w (RetP R s w (lone (altS Wf (q.rest.length+1) q).1) (altS Wf (q.rest.length+1) q).2):=by
 obtain ⟨i0,hi0,hz0,hz1,hz2⟩:=info_parts info_ptr
 have hgd:∀q,Gd 0 q (rowP Wf q).2:=fun q=>rowS_gd hWf _ q
 rw[altS_cont]
 obtain ⟨T,hT⟩:∃T,(PcL.cons (rowP Wf q).1 (contS Wf q.rest.length (rowP Wf q).2).1,(contS Wf q.rest.length (rowP Wf q).2).2)=T:=⟨_,rfl⟩
 rw[hT]
 have HT:=Lib.hid hT
 clear hT
 have hR:=h.lt
 have QR:=HR _ _ _ h hn hB
 go_enter Tryz.func45,Tryz.ntmps45
 go_upto_region 2 with (go_at_call 78;refine QR.mono ?_;rintro e w5 ⟨b,m5,rfl,k5,x5,h5⟩)
 have I0:WysI R w s Wf T (w5.alloc (.cells #[.pointer (some ⟨b,0,none⟩)] 78)) m5 (rowP Wf q).2 q.rest.length 1 1 (some ⟨w5.heap.size,0,none⟩) [(rowP Wf q).1] [b]:=by
  have gA:Gr w5 (w5.alloc (.cells #[.pointer (some ⟨b,0,none⟩)] 78)):=Gr.alloc (Gr.refl w5) _
  have z5:=x5.size
  refine ⟨h5.gr gA,x5.alloc _,World.ownsRow_lit w5 #[.pointer (some ⟨b,0,none⟩)] 1 z5 (by unfold maxLen;omega) (by simp),⟨rfl,fun i hi hi'=>?_⟩,rfl,Lib.hid (by rw[←HT.out];exact ⟨rfl,rfl⟩)⟩
  have:i=0:=by simp at hi;exact hi
  subst this
  refine ⟨w.heap.size-1,w5.heap.size,Pc.In.same (Same.gr gA (Nat.le_refl _)) _ _ k5,fun k hk=>by injection hk with hk;omega,gA.size,fun k hk=> .inr ?_⟩
  injection hk with hk
  show w5.heap.size≤k
  exact Nat.le_of_eq hk
 have hl0:=(hgd q).r
 have hB0:=(hgd q).bd hB
 have hm0:1≤m5+1:=by omega
 clear k5 x5 h5 QR h
 generalize (w5.alloc (.cells #[.pointer (some ⟨b,0,none⟩)] 78))=w1 at I0 ⊢
 go_loopw [3] (fun v wr=>∃m q k N c A l bs,v= .slice A N c∧WysI R w s Wf T wr m q k N c A l bs∧q.rest.length≤k∧q.rest.length≤n∧BdX q∧N≤m+1) (fun _ wr=>s.size-rdN R wr)
 case atStart=>exact ⟨m5,_,_,1,1,_,_,_,rfl,I0,hl0,by omega,hB0,hm0⟩
 case round=>
  clear I0 hl0 hB0 hm0 hB hn HT
  obtain ⟨m,q,k,N,c,A,l,bs,rfl,I,hk,hqn,hB,hNm⟩:=hrel
  have Hmn:=Lib.hid I.h.n
  have hlen:=I.h.len
  obtain ⟨c4,f4⟩:=And.intro I.h.c4 I.h.f4
  rcases Bool.eq_false_or_eq_true q.bad with hb|hb
  ·
   rw[hb] at c4
   have HE:Hid ((!q.bad&&headIs 124 q.rest)=false):=Lib.hid (by rw[hb];rfl)
   have e1:contS Wf k q=(.nil,q):=by unfold contS;rw[HE.out];rfl
   by_cases h1:N=1
   ·
    obtain ⟨p,b,rfl,rfl⟩:=I.single h1
    subst h1
    obtain ⟨g',rfl⟩:∃g',A=some ⟨g',0,none⟩:=by
     obtain ⟨_,⟨_,h0'⟩|⟨g',cap,cur,hv,_⟩⟩:=I.own
     ·
      cases h0'
     ·
      injection hv with hv1 _ _
      exact ⟨g',hv1⟩
    have hc0:_=some (Value.pointer (some ⟨b,0,none⟩)):=I.own.cellAt 0 (by decide)
    go_wp2
    go_ret
    exact I.ret1 e1
   ·
    have hN1:((N:Int)==1)=false:=beq_eq_false_iff_ne.2 (by omega)
    have HR:=I.ret2 e1 h1 hR
    go_wp2
    go_ret
    exact HR
  ·
   rw[hb] at c4
   cases h124:headIs 124 q.rest
   ·
    have QT:=takes_no I.h hs 124 (by decide) h124
    have HE:Hid ((!q.bad&&headIs 124 q.rest)=false):=Lib.hid (by rw[hb,h124];rfl)
    go_upto_region 4 with (go_at_call 79;refine QT.mono ?_;rintro e w4 ⟨rfl,g4⟩)
    have I:=I.gr g4 hR
    have e1:contS Wf k q=(.nil,q):=by unfold contS;rw[HE.out];rfl
    by_cases h1:N=1
    ·
     obtain ⟨p,b,rfl,rfl⟩:=I.single h1
     subst h1
     obtain ⟨g',rfl⟩:∃g',A=some ⟨g',0,none⟩:=by
      obtain ⟨_,⟨_,h0'⟩|⟨g',cap,cur,hv,_⟩⟩:=I.own
      ·
       cases h0'
      ·
       injection hv with hv1 _ _
       exact ⟨g',hv1⟩
     have hc0:_=some (Value.pointer (some ⟨b,0,none⟩)):=I.own.cellAt 0 (by decide)
     go_wp2
     go_ret
     exact I.ret1 e1
    ·
     have hN1:((N:Int)==1)=false:=beq_eq_false_iff_ne.2 (by omega)
     have HR:=I.ret2 e1 h1 hR
     go_wp2
     go_ret
     exact HR
   ·
    have QT:=takes_yes I.h hs 124 (by decide) h124
    obtain ⟨d,r,hq, -⟩:=headIs_cons h124
    have hl1:q.rest.length=r.length+1:=by rw[hq];rfl
    have hd1:q.rest.drop 1=r:=by rw[hq];rfl
    obtain ⟨k,rfl⟩:∃j,k=j+1:=⟨k-1,by omega⟩
    have e1:contS Wf (k+1) q=(.cons (rowP Wf {q with rest:=r}).1 (contS Wf k (rowP Wf {q with rest:=r}).2).1,(contS Wf k (rowP Wf {q with rest:=r}).2).2):=by
     conv=>lhs;unfold contS
     rw[hb,h124,hd1]
     have e2:({rest:=r,groups:=q.groups,deep:=q.deep,bad:=false,over:=q.over}:Rs)={q with rest:=r}:=by rw[hb]
     rw[e2,altS_cont]
     rfl
    rw[hd1] at QT
    have hB2:BdX {q with rest:=r}:=⟨by have:=hB.1;simp only;omega,by have:=hB.2;simp only;omega⟩
    have hg:=hgd {q with rest:=r}
    have hgr:=hg.r
    simp only at hgr
    have HN:=Lib.hid I.hN
    go_upto_region 3 with (go_at_call 79;refine QT.mono ?_;rintro e w4 ⟨rfl,x4,h4⟩)
    have own4:=own_gx I.own x4 hR
    have kids4:=I.kids.gx x4 (by omega)
    have xw4:=I.x.trans x4
    have QR:=HR _ _ _ h4 (by simp only;omega) hB2
    have hc:=I.hc
    clear I QT c4 f4 x4 h4
    go_wp2_with (first
     | (go_at_call 78;refine QR.mono ?_;rintro e w5 ⟨b,m5,rfl,k5,x5,h5⟩;have gA:Gr w5 (w5.alloc (.cells #[.pointer (some ⟨b,0,none⟩)] 78)):=Gr.alloc (Gr.refl w5) _;have own6:=own_gx (own_gx own4 x5 hR) (GX.of_gr (R:=R) gA) hR;have kids6:=(kids4.gx x5 (by omega)).gr gA;have hrx:Rd (w5.alloc (.cells #[.pointer (some ⟨b,0,none⟩)] 78)) 1 (some ⟨w5.heap.size,0,none⟩) 1 (ptrs [b]):=Rd.byte (W:=w5) rfl 78 (.pointer (some ⟨b,0,none⟩));have k6:=Pc.In.same (Same.gr gA (Nat.le_refl _)) _ _ k5;have xw6:=(xw4.trans x5).trans (GX.of_gr gA);have h6:=h5.gr gA;have z6:(w5.alloc (.cells #[.pointer (some ⟨b,0,none⟩)] 78)).heap.size=w5.heap.size+1:=(by simp);have z5:=x5.size;have zw4:=xw4.size;have hvo:=own4.lt;have hvl:=own6.lt;have hm5:=h6.len)
     | (at_builtin;refine wpList_append_rd rfl (.tmp 18) (.tmp 21) 109 rfl w.heap.size 78 i0 _ 1 8 Tryz.underlying109 hi0 hz0 hz1 hz2 rfl (by decide) _ N _ rfl own6 (some ⟨w5.heap.size,0,none⟩) 1 1 (ptrs [b]) rfl hrx (ptrs_one _) (by unfold maxLen;omega) (by omega) (by omega) ?_;intro v' w9 own9 hgr9 hob9;obtain ⟨A9,c9,hv9⟩:=own_form own9;subst hv9))
    have xw9:=xw6.grown hgr9 (fun j hj=>(hvl j hj).1)
    have h9:=h6.grown hgr9 (fun e=>by have:=hvl _ e;omega)
    have kids9:=kids6.push hgr9 hob9 k6 (by omega) (by omega) (fun j hj=>by have:=hvo j hj;omega)
    rw[←ptrs_append] at own9
    go_roundw
    case rel=>exact ⟨m5,_,k,N+1,c9,A9,l++[(rowP Wf {q with rest:=r}).1],bs++[b],rfl,⟨h9,xw9,own9,kids9,by rw[HN.out];simp,Lib.hid (by have:=hc.out;rw[e1] at this;rw[PcL.app_snoc];exact this)⟩,by omega,by omega,hg.bd hB2,by omega⟩
    case measure=>rw[Hmn.out,h9.n];omega
theorem ways_all {R:Nat} {s:ByteArray} (hs:(s.size:Int)≤4096) (n:Nat):∀(W:World) (m:Nat) (q:Rs),Rdr W R s m q→q.rest.length<n→BdX q→
  Calls Tryz.prog 45 #[.pointer (some ⟨R,0,none⟩)] W (RetP R s W (waysS n q).1 (waysS n q).2):=by
 induction n with
 | zero=>intro W m q _ h;exact absurd h (Nat.not_lt_zero _)
 | succ n ih=>
  intro W m q h hq hB
  refine ways_row (waysS n) (waysS_gd n) h hs n (Nat.le_of_lt_succ hq) hB fun W m q h hq hB=>?_
  refine row_any (waysS n) (waysS_gd n) h hs n hq hB fun W m q c r h hr hq hB=>?_
  have hl:q.rest.length=r.length+1:=by rw[hr];rfl
  have hb1:=hB.1
  have hb2:=hB.2
  refine piece_all (waysS n) h hs hr fun W h=>?_
  refine group_all (waysS n) (waysS_gd n) h hs (by simp only;omega) (by simp only;omega) fun W m h=>?_
  obtain ⟨o1,o2,o3, -⟩:=openS_gd {q with rest:=r,deep:=q.deep+1}
  simp only at o1 o2 o3
  exact ih W m _ h (by simp only;omega) ⟨by simp only;omega,by simp only;omega⟩
mutual
theorem Pc.lay_len:∀(p:Pc) (a:Nat),(p.lay a).length=p.sz
 | .leaf op ps,a=>rfl
 | .row l,a=>by simp only[Pc.lay,Pc.sz];exact PcL.layR_len l a
 | .ways l,a=>by simp only[Pc.lay,Pc.sz];exact PcL.layW_len l a _
 | .group g k,a=>by
  simp only[Pc.lay,Pc.sz]
  cases (g==0)
  ·
   simp[Pc.lay_len k (a+1)]
  ·
   simp[Pc.lay_len k a]
 | .rep op z k,a=>by
  simp only[Pc.lay,Pc.sz]
  cases (op==42)
  ·
   cases (op==43)
   ·
    simp[Pc.lay_len k (a+1)]
   ·
    simp[Pc.lay_len k a]
  ·
   simp[Pc.lay_len k (a+1)]
theorem PcL.layR_len:∀(l:PcL) (a:Nat),(l.layR a).length=l.szR
 | .nil,a=>rfl
 | .cons p l,a=>by simp only[PcL.layR,PcL.szR,List.length_append,Pc.lay_len p,PcL.layR_len l]
theorem PcL.layW_len:∀(l:PcL) (a e:Nat),(l.layW a e).length=l.szW
 | .nil,a,e=>rfl
 | .cons p .nil,a,e=>by simp only[PcL.layW,PcL.szW];exact Pc.lay_len p a
 | .cons p (.cons q l),a,e=>by
  simp only[PcL.layW,PcL.szW,List.length_append,List.length_cons,Pc.lay_len p,PcL.layW_len (.cons q l)]
  omega
end
def PcL.js:PcL→Nat→List Nat
 | .nil,_=>[]
 | .cons _ .nil,_=>[]
 | .cons p (.cons q l),a=>(a+p.sz+1)::(PcL.cons q l).js (a+p.sz+2)
def putX (e:Nat) (c:List In) (j:Nat):List In:=c.modify j fun v=>⟨v.op,e,v.y,v.ps⟩
theorem putX_len (e:Nat) (c:List In) (j:Nat):(putX e c j).length=c.length:=by simp[putX]
theorem modify_mid (f:In→In) (pre:List In) (v:In) (post:List In):(pre++v::post).modify pre.length f=pre++f v::post:=by
 induction pre with
 | nil=>rfl
 | cons a l ih=>simp[List.modify_succ_cons,ih]
theorem putX_mid (e:Nat) (pre:List In) (v:In) (post:List In):putX e (pre++v::post) pre.length=pre++⟨v.op,e,v.y,v.ps⟩::post:=modify_mid _ _ _ _
theorem fold_layW (e:Nat):∀(l:PcL) (pre:List In) (a:Nat),pre.length=a→(l.js a).foldl (putX e) (pre++l.layW a 0)=pre++l.layW a e
 | .nil,pre,a,h=>rfl
 | .cons p .nil,pre,a,h=>rfl
 | .cons p (.cons q l),pre,a,h=>by
  simp only[PcL.js,PcL.layW,List.foldl_cons]
  have e1:pre++(⟨2,a+1,a+p.sz+2,[]⟩:In)::(p.lay (a+1)++(⟨3,(0:Nat),0,[]⟩:In)::(PcL.cons q l).layW (a+p.sz+2) 0)=(pre++(⟨2,a+1,a+p.sz+2,[]⟩:In)::p.lay (a+1))++(⟨3,(0:Nat),0,[]⟩:In)::(PcL.cons q l).layW (a+p.sz+2) 0:=by simp
  have e2:a+p.sz+1=(pre++(⟨2,a+1,a+p.sz+2,[]⟩:In)::p.lay (a+1)).length:=by simp[h,Pc.lay_len];omega
  rw[e1]
  conv=>lhs;rw[e2]
  rw[putX_mid]
  have e3:(pre++(⟨2,a+1,a+p.sz+2,[]⟩:In)::p.lay (a+1))++(⟨3,e,0,[]⟩:In)::(PcL.cons q l).layW (a+p.sz+2) 0=((pre++(⟨2,a+1,a+p.sz+2,[]⟩:In)::p.lay (a+1))++[(⟨3,e,0,[]⟩:In)])++(PcL.cons q l).layW (a+p.sz+2) 0:=by simp
  rw[e3]
  have:=fold_layW e (.cons q l) ((pre++(⟨2,a+1,a+p.sz+2,[]⟩:In)::p.lay (a+1))++[(⟨3,e,0,[]⟩:In)]) (a+p.sz+2) (by simp[h,Pc.lay_len];omega)
  rw[this]
  simp
theorem PcL.js_lt:∀(l:PcL) (a:Nat) (j:Nat),j∈l.js a→a≤j∧j<a+l.szW
 | .nil,a,j,h=>by simp[PcL.js] at h
 | .cons p .nil,a,j,h=>by simp[PcL.js] at h
 | .cons p (.cons q l),a,j,h=>by
  simp only[PcL.js,List.mem_cons] at h
  simp only[PcL.szW]
  rcases h with h|h
  ·
   omega
  ·
   have:=PcL.js_lt (.cons q l) _ j h
   omega
def PcL.len:PcL→Nat
 | .nil=>0
 | .cons _ l=>l.len+1
mutual
def Pc.ok:Pc→Prop
 | .leaf op _=>op=1∨op=5∨op=6
 | .row l=>l.len≤6000∧l.ok
 | .ways l=>(∃p m,l= .cons p m)∧l.len≤6000∧l.ok
 | .group g k=>g≤5000∧k.ok
 | .rep op _ k=>(op=42∨op=43∨op=63)∧k.ok
def PcL.ok:PcL→Prop
 | .nil=>True
 | .cons p l=>p.ok∧l.ok
end
theorem PcL.szW_cons (p:Pc) (l:PcL):(PcL.cons p l).szW≤p.sz+2+l.szW:=by
 cases l with
 | nil=>simp[PcL.szW]
 | cons q l=>simp[PcL.szW]
theorem lone_sz (l:PcL):(lone l).sz=l.szW:=by
 match l with
 | .nil=>rfl
 | .cons p .nil=>rfl
 | .cons p (.cons q l)=>rfl
theorem lone_ok {l:PcL} (hn:∃p m,l= .cons p m) (hl:l.len≤6000) (h:l.ok):(lone l).ok:=by
 match l with
 | .nil=>obtain ⟨p,m,e⟩:=hn;cases e
 | .cons p .nil=>exact h.1
 | .cons p (.cons q l)=>exact ⟨⟨_,_,rfl⟩,hl,h⟩
theorem altS_ne (W:Rs→Pc×Rs) (k:Nat) (s:Rs):∃p m,(altS W (k+1) s).1= .cons p m:=by
 unfold altS
 simp only
 cases (!(rowP W s).2.bad&&headIs 124 (rowP W s).2.rest)
 ·
  exact ⟨_,_,rfl⟩
 ·
  exact ⟨_,_,rfl⟩
def Sz (n:Nat) (x:Pc×Rs):Prop:=x.1.sz+2*x.2.rest.length≤2*n∧x.1.ok
theorem rowS_len (W:Rs→Pc×Rs) (k:Nat):∀s,(rowS W k s).1.len≤k:=by
 induction k with
 | zero=>intro s;exact Nat.le_refl _
 | succ k ih=>
  intro s
  unfold rowS
  cases (s.bad||endR s.rest)
  ·
   simp only[cond_false,PcL.len]
   exact Nat.succ_le_succ (ih _)
  ·
   simp[PcL.len]
theorem altS_len (W:Rs→Pc×Rs) (k:Nat):∀s,(altS W k s).1.len≤k:=by
 induction k with
 | zero=>intro s;exact Nat.le_refl _
 | succ k ih=>
  intro s
  unfold altS
  simp only
  cases (!(rowP W s).2.bad&&headIs 124 (rowP W s).2.rest)
  ·
   simp[PcL.len]
  ·
   simp only[cond_true,PcL.len]
   exact Nat.succ_le_succ (ih _)
theorem Sz.fail {n:Nat} {s:Rs} (h:s.rest.length≤n):Sz n (failS s):=⟨by simp only[failS,Pc.sz,PcL.szR];omega,by simp[failS,Pc.ok,PcL.ok,PcL.len]⟩
theorem headIs_consL {c:Nat} {l:List UInt8} (h:headIs c l=true):∃x r,l=x::r∧x.toNat=c:=by
 cases l with
 | nil=>simp[headIs] at h
 | cons x r=>exact ⟨x,r,rfl,by simpa [headIs] using h⟩
section
variable {W:Rs→Pc×Rs} (hW:∀s,Gd 0 s (W s).2) (hZ:∀s,BdX s→Sz s.rest.length (W s))
include hW hZ
theorem groupS_sz (s:Rs) (hb:s.groups+s.rest.length<5000) (hd:s.deep+s.rest.length<5000):Sz (s.rest.length+1) (groupS W s):=by
 unfold groupS
 cases Nat.ble 64 s.deep
 rotate_left
 ·
  exact Sz.fail (by simp)
 simp only[cond_false]
 obtain ⟨o1,o2,o3,o4⟩:=openS_gd {s with deep:=s.deep+1}
 have og:(openS {s with deep:=s.deep+1}).1≤5000:=by
  unfold openS
  cases (headIs 63 {s with deep:=s.deep+1}.rest&&headIs 58 ({s with deep:=s.deep+1}.rest.drop 1))
  ·
   simp;omega
  ·
   simp
 simp only at o1 o2 o3 o4
 generalize openS {s with deep:=s.deep+1}=o at *
 have hz:=hZ o.2 ⟨by omega,by omega⟩
 have hg:=hW o.2
 generalize W o.2=t at *
 cases hc:(t.2.bad || !headIs 41 t.2.rest)
 rotate_left
 ·
  exact Sz.fail (by have:=hg.r;simp;omega)
 simp only[cond_false]
 have hh:headIs 41 t.2.rest=true:=by cases e:headIs 41 t.2.rest with|true=>rfl|false=>rw[e] at hc;simp at hc
 obtain ⟨x,r,hr,_⟩:=headIs_consL hh
 have hz1:=hz.1
 have hr':t.2.rest.length=r.length+1:=by rw[hr];rfl
 refine ⟨?_,og,hz.2⟩
 simp only[Pc.sz,hr,List.drop_succ_cons,List.drop_zero]
 cases (o.1==0)<;>(simp only[cond_true,cond_false];omega)
theorem atomS_sz {s:Rs} {c:UInt8} {r:List UInt8} (h:s.rest=c::r) (hb:BdX s):Sz s.rest.length (atomS W s):=by
 have hl:s.rest.length=r.length+1:=by rw[h];rfl
 have hx:∀x:Option Bs×List UInt8,x.2.length≤r.length→Sz s.rest.length (setS s x):=fun x hx=>by
  obtain ⟨_|f,q⟩:=x
  ·
   exact Sz.fail (by simp only at hx ⊢;omega)
  ·
   refine ⟨?_,?_⟩
   ·
    simp only[setS,Pc.sz] at hx ⊢;omega
   ·
    simp[setS,Pc.ok]
 have hlf:∀op ps,(op=1∨op=5∨op=6)→Sz s.rest.length (.leaf op ps,{s with rest:=r}):=fun op ps ho=>⟨by simp only[Pc.sz];omega,by simpa [Pc.ok] using ho⟩
 have hb1:=hb.1
 have hb2:=hb.2
 unfold atomS
 rw[h]
 simp only
 cases (c.toNat==40)
 rotate_left
 ·
  simp only[cond_true]
  have:=groupS_sz hW hZ {s with rest:=r} (by simp only;omega) (by simp only;omega)
  rwa [show s.rest.length=r.length+1 from hl] at *
 cases (c.toNat==94)
 rotate_left
 ·
  rw[←h];exact hlf 5 _ (by omega)
 cases (c.toNat==36)
 rotate_left
 ·
  rw[←h];exact hlf 6 _ (by omega)
 cases (c.toNat==46)
 rotate_left
 ·
  rw[←h];exact hlf 1 _ (by omega)
 cases (c.toNat==91)
 rotate_left
 ·
  rw[←h];exact hx _ (classS_len r)
 cases (c.toNat==92)
 rotate_left
 ·
  rw[←h];exact hx _ (escS_len r)
 cases stopC c.toNat
 ·
  rw[←h];exact hlf 1 _ (by omega)
 ·
  rw[←h];exact Sz.fail (by simp only;omega)
theorem pieceS_sz {s:Rs} {c:UInt8} {r:List UInt8} (h:s.rest=c::r) (hb:BdX s):Sz s.rest.length (pieceS W s):=by
 have h0:=atomS_sz hW hZ h hb
 unfold pieceS
 generalize atomS W s=t at h0 ⊢
 simp only
 cases hb:t.2.bad
 rotate_left
 ·
  exact h0
 simp only[cond_false]
 match e:t.2.rest with
 | []=>exact h0
 | d::q=>
  simp only
  cases hr:repC d.toNat
  ·
   exact h0
  ·
   simp only[cond_true]
   have h1:(bif headIs 63 q then q.drop 1 else q).length≤q.length:=by cases headIs 63 q<;>simp
   have h2:t.2.rest.length=q.length+1:=by rw[e];rfl
   have h3:=h0.1
   refine ⟨?_,?_,h0.2⟩
   ·
    simp only[Pc.sz]
    generalize (bif headIs 63 q then q.drop 1 else q)=q2 at h1 ⊢
    cases (d.toNat==42)<;>(simp only[cond_true,cond_false];omega)
   ·
    simp only[repC,Bool.or_eq_true,beq_iff_eq] at hr
    omega
theorem rowS_sz (k:Nat):∀s:Rs,BdX s→(rowS W k s).1.szR+2*(rowS W k s).2.rest.length≤2*s.rest.length∧(rowS W k s).1.ok:=by
 induction k with
 | zero=>intro s _;exact ⟨by simp[rowS,PcL.szR],by simp[rowS,PcL.ok]⟩
 | succ k ih=>
  intro s hB
  unfold rowS
  cases hb:(s.bad||endR s.rest)
  ·
   simp only[cond_false]
   obtain ⟨c,r,hr⟩:∃c r,s.rest=c::r:=by
    match e:s.rest with
    | []=>rw[e] at hb;simp[endR] at hb
    | c::r=>exact ⟨c,r,rfl⟩
   have h1:=pieceS_sz hW hZ hr hB
   have h2:=(pieceS_gd hW hr).1
   generalize pieceS W s=t at *
   have h3:=ih t.2 (h2.bd hB)
   have h4:=h1.1
   exact ⟨by simp only[PcL.szR];omega,h1.2,h3.2⟩
  ·
   exact ⟨by simp[PcL.szR],by simp[PcL.ok]⟩
theorem altS_sz (k:Nat):∀s:Rs,BdX s→(altS W k s).1.szW+2*(altS W k s).2.rest.length≤2*s.rest.length∧(altS W k s).1.ok:=by
 induction k with
 | zero=>intro s _;exact ⟨by simp[altS,PcL.szW],by simp[altS,PcL.ok]⟩
 | succ k ih=>
  intro s hB
  unfold altS
  have h0:Gd 0 s (rowP W s).2:=rowS_gd hW _ s
  have h1:Sz s.rest.length (rowP W s):=by
   have:=rowS_sz hW hZ (s.rest.length+1) s hB
   exact ⟨by simpa only[rowP,Pc.sz] using this.1,by simp only[rowP,Pc.ok];exact ⟨by have:=rowS_len W (s.rest.length+1) s;have:=hB.1;omega,this.2⟩⟩
  generalize rowP W s=t at h0 h1 ⊢
  simp only
  have h4:=h1.1
  cases hb:(!t.2.bad&&headIs 124 t.2.rest)
  ·
   simp only[cond_false]
   exact ⟨by simp only[PcL.szW];omega,h1.2,by simp[PcL.ok]⟩
  ·
   simp only[cond_true]
   have hh:headIs 124 t.2.rest=true:=by cases e:headIs 124 t.2.rest with|true=>rfl|false=>rw[e] at hb;simp at hb
   obtain ⟨x,r,hr,_⟩:=headIs_consL hh
   have hl:t.2.rest.length=r.length+1:=by rw[hr];rfl
   have hd:(t.2.rest.drop 1).length=r.length:=by rw[hr];rfl
   have h3:=ih {t.2 with rest:=t.2.rest.drop 1} ((h0.trans (Gd.rest (r:=t.2.rest.drop 1) (by simp))).bd hB)
   simp only at h3
   rw[hd] at h3
   have h5:=PcL.szW_cons t.1 (altS W k ⟨t.2.rest.drop 1,t.2.groups,t.2.deep,t.2.bad,t.2.over⟩).1
   exact ⟨by omega,h1.2,h3.2⟩
end
theorem waysS_sz (n:Nat):∀s:Rs,BdX s→Sz s.rest.length (waysS n s):=by
 induction n with
 | zero=>intro s _;exact Sz.fail (Nat.le_refl _)
 | succ n ih=>
  intro s hB
  have:=altS_sz (waysS_gd n) ih (s.rest.length+1) s hB
  exact ⟨by simp only[waysS,lone_sz];exact this.1,lone_ok (altS_ne _ _ _) (by have:=altS_len (waysS n) (s.rest.length+1) s;have:=hB.1;omega) this.2⟩
theorem readS_sz {s:List UInt8} (h:s.length≤500):(readS s).1.sz≤1000∧(readS s).1.ok:=by
 have:=waysS_sz (s.length+1) ⟨s,0,0,false,false⟩ ⟨by simp only;omega,by simp only;omega⟩
 have h1:=this.1
 simp only at h1
 exact ⟨by unfold readS;omega,this.2⟩
theorem info_inst:(Tryz.prog.info? 85).map (fun i=>(i.zero,i.size,i.bytes))=some (some (.agg #[.int .i64 0, .int .i64 0, .int .i64 0, .string ⟨#[]⟩]),4,40):=by kernel_rfl
def WrtA (w:World) (B:Nat) (A:Option Addr) (code:List In):Prop:=
 ∃c,w.cell? ⟨B,0,none⟩=some (.slice A code.length c)∧w.frozen? ⟨B,0,none⟩=false∧w.ownsRow (B+1) 85 4 (.slice A code.length c) code.length (icells code)∧B<w.heap.size
def blk (A:Option Addr):Option Nat:=A.map (·.block)
structure WX (B:Nat) (w:World) (g:Option Nat) (w':World) (g':Option Nat):Prop where
 os:w'.os=w.os
 tape:w'.tape=w.tape
 output:w'.output=w.output
 size:w.heap.size≤w'.heap.size
 block:∀k,k<w.heap.size→k≠B→g≠some k→w'.heap[k]?=w.heap[k]?
 row:∀k,g'=some k→g=some k∨w.heap.size≤k
theorem WX.refl (B:Nat) (w:World) (g:Option Nat):WX B w g w g:=⟨rfl,rfl,rfl,Nat.le_refl _,fun _ _ _ _=>rfl,fun _ h=> .inl h⟩
theorem WX.trans {B:Nat} {w w1 w2:World} {g g1 g2:Option Nat} (h:WX B w g w1 g1) (k:WX B w1 g1 w2 g2):WX B w g w2 g2:=by
 refine ⟨k.os.trans h.os,k.tape.trans h.tape,k.output.trans h.output,Nat.le_trans h.size k.size,fun i hi hn hg=>?_,fun i hi=>?_⟩
 ·
  refine (k.block i (Nat.lt_of_lt_of_le hi h.size) hn fun e=>?_).trans (h.block i hi hn hg)
  rcases h.row i e with e|e
  ·
   exact hg e
  ·
   omega
 ·
  rcases k.row i hi with e|e
  ·
   exact h.row i e
  ·
   exact .inr (Nat.le_trans h.size e)
theorem WX.gr {B:Nat} {w w':World} (g:Option Nat) (h:Gr w w'):WX B w g w' g:=⟨h.os,h.tape,h.output,h.size,fun k hk _ _=>Below.block h k hk,fun _ h=> .inl h⟩
theorem WX.set {B:Nat} {w w':World} {g g':Option Nat} (h:WX B w g w' g') {p:Addr} (hp:p.block=B∨g'=some p.block) (u:Value):WX B w g (w'.setCell p u) g':=by
 refine ⟨h.os,h.tape,h.output,Nat.le_trans h.size (by simp),fun k hk hn hg=>?_,h.row⟩
 refine (heap_setCell_other w' p k u fun e=>?_).trans (h.block k hk hn hg)
 rcases hp with e2|e2
 ·
  omega
 ·
  rcases h.row _ e2 with e3|e3
  ·
   exact hg (e▸e3)
  ·
   omega
theorem WX.grown {B:Nat} {w w':World} {g g':Option Nat} (h:w.grownBy w' g) (hg:g'=g∨g'=some w.heap.size):WX B w g w' g':=
 ⟨h.os,h.tape,h.output,h.size,fun k hk _ hn=>h.block k hk (fun e=>hn e.symm),fun k hk=>by
  rcases hg with e|e
  ·
   exact .inl (e▸hk)
  ·
   rw[e] at hk;injection hk with hk;exact .inr (Nat.le_of_eq hk)⟩
theorem WX.same {B lo hi:Nat} {w w':World} {g g':Option Nat} (h:WX B w g w' g') (hB:hi≤B) (hg:∀k,g=some k→B≤k) (hs:B<w.heap.size):Same lo hi w w':=
 ⟨Nat.le_trans hB (Nat.le_trans (Nat.le_of_lt hs) h.size),fun k h0 h1=>h.block k (by omega) (by omega) fun e=>by have:=hg k e;omega⟩
theorem WX.below {B:Nat} {w w':World} {g g':Option Nat} (h:WX B w g w' g') (hg:∀k,g=some k→B≤k) (hs:B<w.heap.size):Below B w w':=
 ⟨h.os,h.tape,h.output,h.size,fun k hk=>h.block k (by omega) (by omega) fun e=>by have:=hg k e;omega⟩
section
variable {w w':World} {B:Nat} {A:Option Addr} {code:List In}
theorem WrtA.lt (h:WrtA w B A code):B<w.heap.size:=h.choose_spec.2.2.2
theorem WrtA.row (h:WrtA w B A code):∀k,blk A=some k→B<k∧k<w.heap.size:=by
 obtain ⟨c,h1,h2,h3,h4⟩:=h
 intro k hk
 have:=h3.lt k (by
  cases A with
  | none=>cases hk
  | some a=>exact hk)
 omega
theorem WrtA.kept (h:WrtA w B A code) (hs:w.heap.size≤w'.heap.size) (hb:w'.heap[B]?=w.heap[B]?) (hk:∀k,blk A=some k→w'.heap[k]?=w.heap[k]?):WrtA w' B A code:=by
 obtain ⟨c,h1,h2,h3,h4⟩:=h
 refine ⟨c,(World.cell?_of_block (a:=⟨B,0,none⟩) hb).trans h1,(World.frozen?_of_block (a:=⟨B,0,none⟩) hb).trans h2,?_,Nat.lt_of_lt_of_le h4 hs⟩
 obtain ⟨k1,⟨hv,k2⟩|⟨g,cap,cur,hv,hb',hh,k2⟩⟩:=h3
 ·
  exact ⟨k1, .inl ⟨hv,k2⟩⟩
 ·
  refine ⟨k1, .inr ⟨g,cap,cur,hv,hb',(hk g ?_).trans hh,k2⟩⟩
  injection hv with hv1
  rw[hv1];rfl
theorem WrtA.gr (h:WrtA w B A code) (g:Gr w w'):WrtA w' B A code:=
 h.kept g.size (Below.block g B h.lt) fun k hk=>Below.block g k (h.row k hk).2
theorem WrtA.grown {row:Option Nat} (h:WrtA w B A code) (g:w.grownBy w' row) (hB:row≠some B) (hA:∀k,row=some k→blk A≠some k):WrtA w' B A code:=
 h.kept g.size (g.block B h.lt (fun e=>hB e.symm)) fun k hk=>g.block k (h.row k hk).2 (fun e=>hA k e.symm hk)
end
theorem full_any {w:World} {B:Nat} {A:Option Addr} {code:List In} (h:WrtA w B A code) :
  Calls Tryz.prog 48 #[.pointer (some ⟨B,0,none⟩)] w fun e w'=>e= .returned (.bool (decide (1024<(code.length:Int))))∧w=w':=by
 obtain ⟨c,h1,h2, -,h4⟩:=h
 go_enter Tryz.func48,Tryz.ntmps48
 go_wp2
 go_ret
 exact ⟨rfl,rfl⟩
theorem lays_any {w:World} {B:Nat} {A:Option Addr} {code:List In} (h:WrtA w B A code) (ad:Addr) (m c':Nat) (news:List In) (hn:news.length=m) (h0:0<m) (hr:Rd w 4 (some ad) m (icells news)) (hb:code.length+m≤4096) :
  Calls Tryz.prog 46 #[.pointer (some ⟨B,0,none⟩), .slice (some ad) m c'] w fun e w'=>e= .returned (.int .i64 code.length)∧∃A',WrtA w' B A' (code++news)∧WX B w (blk A) w' (blk A'):=by
 obtain ⟨i0,hi0,hz0,hz1,hz2⟩:=info_parts info_inst
 obtain ⟨c,h1,h2,own,h4⟩:=h
 have hvl:=own.lt
 go_enter Tryz.func46,Tryz.ntmps46
 go_wp2_with (at_builtin;refine wpList_append_rd rfl (.tmp 15) (.tmp 16) 53 rfl (B+1) 85 i0 _ 4 40 Tryz.underlying53 hi0 hz0 hz1 hz2 rfl (by decide) _ code.length _ rfl own (some ad) m c' (icells news) rfl hr (icells_one _) (by unfold maxLen;omega) (by omega) (by omega) ?_;intro v' w9 own9 hgr9 hob9;obtain ⟨A9,c9,hv9⟩:=own_form own9;subst hv9;have e9:w9.heap[B]?=w.heap[B]?:=hgr9.block B h4 (fun e=>(by have:=hvl B e.symm;omega));have hc9:=(World.cell?_of_block (a:=⟨B,0,none⟩) e9).trans h1;have hf9:=(World.frozen?_of_block (a:=⟨B,0,none⟩) e9).trans h2;have hz9:B<w9.heap.size:=Nat.lt_of_lt_of_le h4 hgr9.size)
 go_ret
 have hx:∀(A:Option Addr) (n c:Nat),(Value.slice A n c).ownBlock=blk A:=fun A n c=>by cases A<;>rfl
 have hgr:w.grownBy w9 (Value.slice A code.length c).ownBlock:=hgr9
 have hob:(Value.slice A9 (code.length+m) c9).ownBlock=(Value.slice A code.length c).ownBlock∨(Value.slice A9 (code.length+m) c9).ownBlock=some w.heap.size:=hob9
 rw[hx] at hgr
 rw[hx,hx] at hob
 refine ⟨rfl,A9,⟨c9,?_,by simpa using hf9,?_,by simpa using hz9⟩,(WX.grown (B:=B) hgr hob).set (p:=⟨B,0,none⟩) (.inl rfl) _⟩
 ·
  rw[List.length_append,hn]
  go_simp
 ·
  rw[List.length_append,hn,icells_append]
  exact own_setX own9 (p:=⟨B,0,none⟩) (Nat.lt_succ_self _) _
section
variable {P:Program}
theorem Addr.add_0 (p:Addr):p.add 0=p:=rfl
theorem run_storeVar_cell (w:World) (p:Addr) (ty:TypeId) (u old:Value) (hc:w.cell? p=some old) (hf:w.frozen? p=false) (hi:(P.info? ty).map (·.size)=some 1) (h1:u.oneCell'=true):(storeVar ty p u).run P w= .ok () (w.setCell p u):=by
 have hcs:u.cells= #[u]:=by cases u<;>first|rfl|cases h1
 have hst:(store p u).run P w= .ok () (w.setCell p u):=by
  rw[run_store P w _ u _ h1,hc]
  simp[hf]
 cases hq:P.info? ty with
 | none=>simp[hq] at hi
 | some i=>
  have hs:i.size=1:=by simpa [hq] using hi
  simp[storeVar,sizeOf,typeInfo,hq,hcs,hs,storeCells,Addr.add_0,hst]
theorem wp_store_cell {o:Oper} {a:Act} {w:World} {K:Act→World→Prop} {Q:Exit→Act→World→Prop} (ty:TypeId) (x y:Operand) (ho:o.op= .store ty x y)
  (p:Addr) (u old:Value) (hx:a.eval x= .pointer (some p)) (hy:a.eval y=u) (hc:w.cell? p=some old) (hf:w.frozen? p=false) (hi:(P.info? ty).map (·.size)=some 1) (h1:u.oneCell'=true)
  (h:K (a.put o.dst undef) (w.setCell p u)):o.wp P a w K Q:=by
 unfold Oper.wp execOp
 simp only[ho,hx,hy,Instr.storeAt,Instr.sureAddr,Sem.run_bind,Sem.run_pure,Result.andThen_ok,run_storeVar_cell w p ty u old hc hf hi h1]
 exact h
end
end Go.Proofs.YtnphdacibageiaaGreat
