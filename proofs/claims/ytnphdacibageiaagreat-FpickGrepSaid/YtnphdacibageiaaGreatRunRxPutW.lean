import Derived.Test.YtnphdacibageiaaGreatRunRxSpl
import Derived.Test.YtnphdacibageiaaGreatRunPkVis
set_option linter.all false
set_option maxRecDepth 1000000
set_option maxHeartbeats 12800000
namespace Go.Proofs.YtnphdacibageiaaGreat
open Go.RowKit
theorem info_int:(Tryz.prog.info? 3).map (fun i=>(i.zero,i.size,i.bytes))=some (some (.int .i64 0),1,8):=by kernel_rfl
def PcL.layD:PcL→Nat→List Go.Proofs.YtnphdacibageiaaGreat.In
 | .nil,_=>[]
 | .cons p l,a=>⟨2,a+1,a+p.sz+2,[]⟩::(p.lay (a+1)++(⟨3,0,0,[]⟩::l.layD (a+p.sz+2)))
def PcL.szD:PcL→Nat
 | .nil=>0
 | .cons p l=>p.sz+2+l.szD
def PcL.jsD:PcL→Nat→List Nat
 | .nil,_=>[]
 | .cons p l,a=>(a+p.sz+1)::l.jsD (a+p.sz+2)
theorem PcL.layD_len:∀(l:PcL) (a:Nat),(l.layD a).length=l.szD
 | .nil,a=>rfl
 | .cons p l,a=>by simp only[PcL.layD,PcL.szD,List.length_cons,List.length_append,Pc.lay_len,PcL.layD_len l];omega
theorem PcL.layD_one:∀(l:PcL) (p:Pc) (a:Nat),(l.app (.cons p .nil)).layD a=l.layD a++⟨2,(a+l.szD:Nat)+1,(a+l.szD:Nat)+p.sz+2,[]⟩::(p.lay (a+l.szD+1)++[⟨3,0,0,[]⟩])
 | .nil,p,a=>by simp[PcL.app,PcL.layD,PcL.szD]
 | .cons q l,p,a=>by
  simp only[PcL.app,PcL.layD,PcL.szD,PcL.layD_one l p]
  have e:a+q.sz+2+l.szD=a+(q.sz+2+l.szD):=by omega
  rw[e]
  simp
theorem PcL.jsD_one:∀(l:PcL) (p:Pc) (a:Nat),(l.app (.cons p .nil)).jsD a=l.jsD a++[a+l.szD+p.sz+1]
 | .nil,p,a=>by simp[PcL.app,PcL.jsD,PcL.szD]
 | .cons q l,p,a=>by
  simp only[PcL.app,PcL.jsD,PcL.szD,PcL.jsD_one l p]
  have e:a+q.sz+2+l.szD=a+(q.sz+2+l.szD):=by omega
  rw[e]
  simp
theorem PcL.jsD_len:∀(l:PcL) (a:Nat),(l.jsD a).length=l.len
 | .nil,a=>rfl
 | .cons p l,a=>by simp only[PcL.jsD,PcL.len,List.length_cons,PcL.jsD_len l]
theorem PcL.szW_ge:∀(l:PcL) (p q:Pc) (m:PcL),l.szD+p.sz+2≤(l.app (.cons p (.cons q m))).szW
 | .nil,p,q,m=>by simp only[PcL.app,PcL.szD,PcL.szW];first|done|omega
 | .cons r .nil,p,q,m=>by have:=PcL.szW_ge .nil p q m;simp only[PcL.app,PcL.szD,PcL.szW] at this ⊢;first|done|omega
 | .cons r (.cons s l),p,q,m=>by have:=PcL.szW_ge (.cons s l) p q m;simp only[PcL.app,PcL.szD,PcL.szW] at this ⊢;first|done|omega
theorem PcL.szW_last:∀(l:PcL) (p:Pc),(l.app (.cons p .nil)).szW=l.szD+p.sz
 | .nil,p=>by simp[PcL.app,PcL.szD,PcL.szW]
 | .cons r .nil,p=>by simp only[PcL.app,PcL.szD,PcL.szW]
 | .cons r (.cons s l),p=>by have:=PcL.szW_last (.cons s l) p;simp only[PcL.app,PcL.szD,PcL.szW] at this ⊢;first|done|omega
theorem PcL.layW_last:∀(l:PcL) (p:Pc) (a:Nat),(l.app (.cons p .nil)).layW a 0=l.layD a++p.lay (a+l.szD)
 | .nil,p,a=>by simp[PcL.app,PcL.layD,PcL.szD,PcL.layW]
 | .cons r .nil,p,a=>by
  have e:a+r.sz+2=a+(r.sz+2):=by omega
  simp[PcL.app,PcL.szD,PcL.layD,PcL.layW,e]
 | .cons r (.cons s l),p,a=>by
  have:=PcL.layW_last (.cons s l) p (a+r.sz+2)
  simp only[PcL.app,PcL.szD,PcL.layD,PcL.layW] at this ⊢
  rw[this]
  have e:a+r.sz+2+(s.sz+2+l.szD)=a+(r.sz+2+(s.sz+2+l.szD)):=by omega
  rw[e]
  simp
theorem PcL.js_last:∀(l:PcL) (p:Pc) (a:Nat),(l.app (.cons p .nil)).js a=l.jsD a
 | .nil,p,a=>by simp[PcL.app,PcL.js,PcL.jsD]
 | .cons r .nil,p,a=>by simp[PcL.app,PcL.js,PcL.jsD]
 | .cons r (.cons s l),p,a=>by
  have:=PcL.js_last (.cons s l) p (a+r.sz+2)
  simp only[PcL.app,PcL.js,PcL.jsD] at this ⊢
  rw[this]
theorem own_wx {w w':World} {B base:Nat} {g g':Option Nat} {e:TypeId} {size n:Nat} {v:Value} {xs:List Value} (h:w.ownsRow base e size v n xs) (x:WX B w g w' g') (hB:B<base) (hn:∀k,v.ownBlock=some k→g≠some k):w'.ownsRow base e size v n xs:=by
 obtain ⟨h1,⟨hv,h0⟩|⟨g',cap,cur,hv,hb,hh,h2⟩⟩:=h
 ·
  exact ⟨h1, .inl ⟨hv,h0⟩⟩
 ·
  exact ⟨h1, .inr ⟨g',cap,cur,hv,hb,(x.block g' (Array.getElem?_eq_some_iff.1 hh).1 (by omega) (hn g' (by rw[hv];rfl))).trans hh,h2⟩⟩
theorem WX.grow_new {B:Nat} {w w1 w2:World} {g g1 row:Option Nat} (h:WX B w g w1 g1) (x:w1.grownBy w2 row) (hr:∀k,row=some k→w.heap.size≤k):WX B w g w2 g1:=
 ⟨x.os.trans h.os,x.tape.trans h.tape,x.output.trans h.output,Nat.le_trans h.size x.size,fun k hk hn hg=>(x.block k (Nat.lt_of_lt_of_le hk h.size) (fun e=>by have:=hr k e.symm;omega)).trans (h.block k hk hn hg),h.row⟩
theorem icells_putX (e:Nat) (code:List In):∀(i:Nat),i<code.length→(icells code).set (i*4+1) (.int .i64 e)=icells (putX e code i):=by
 induction code with
 | nil=>intro i h;simp at h
 | cons v l ih=>
  intro i h
  match i,h with
  | 0,_=>rfl
  | i+1,h=>
   have e1:(i+1)*4+1=(i*4+1)+1+1+1+1:=by omega
   rw[icells_cons,e1]
   simp only[List.set_cons_succ]
   rw[ih i (by simpa using h)]
   rfl
theorem WrtA.putX {w:World} {B g:Nat} {code:List In} (h:WrtA w B (some ⟨g,0,none⟩) code) {j:Nat} (hj:j<code.length) (e:Nat):WrtA (w.setCell ⟨g,j*4+1,none⟩ (.int .i64 e)) B (some ⟨g,0,none⟩) (putX e code j):=by
 obtain ⟨c,h1,h2,own,h4⟩:=h
 have hgl:=own.lt g rfl
 obtain ⟨o1, -⟩:=own.stored (j*4+1) (.int .i64 e)
 rw[icells_putX e code j hj] at o1
 refine ⟨c,?_,?_,?_,by simpa using h4⟩
 ·
  rw[putX_len]
  exact (World.cell?_setCell_other w _ ⟨B,0,none⟩ _ (by first|(simp;done)|(simp;omega))).trans h1
 ·
  rw[World.frozen?_setCell];exact h2
 ·
  rw[putX_len];exact o1
theorem foldl_len (e:Nat):∀(js:List Nat) (c:List In),(js.foldl (putX e) c).length=c.length
 | [],c=>rfl
 | j::js,c=>by rw[List.foldl_cons,foldl_len e js,putX_len]
theorem WX.row_ne {B:Nat} {w w':World} {g g':Option Nat} {v:Option Nat} (x:WX B w g w' g') (h:∀k,v=some k→g≠some k) (hlt:∀k,v=some k→k<w.heap.size):∀k,v=some k→g'≠some k:=by
 intro k hk e
 rcases x.row k e with e2|e2
 ·
  exact h k hk e2
 ·
  have:=hlt k hk;omega
def WaysR (w:World) (B:Nat) (A:Option Addr) (code:List In) (l:PcL) (n k:Nat) (v:Value) (wr:World):Prop:=
 ∃(ds rest:PcL) (A':Option Addr),l=ds.app rest∧ds.len=k∧k<n∧WrtA wr B A' (code++ds.layD code.length)∧WX B w (blk A) wr (blk A')∧wr.ownsRow w.heap.size 3 1 v k ((ds.jsD code.length).map fun j:Nat=>Value.int .i64 (j:Int))∧∀g,v.ownBlock=some g→blk A'≠some g
def JumpR (w:World) (B g:Nat) (A:Option Addr) (code4:List In) (js:List Nat) (N:Nat) (v:Value) (i:Nat) (wr:World):Prop:=
 WrtA wr B (some ⟨g,0,none⟩) ((js.take i).foldl (putX N) code4)∧WX B w (blk A) wr (some g)∧wr.ownsRow w.heap.size 3 1 v js.length (js.map fun j:Nat=>Value.int .i64 (j:Int))∧∀g',v.ownBlock=some g'→some g≠some g'
theorem JumpR.next {w wr w5:World} {B g N:Nat} {A:Option Addr} {code4:List In} {js:List Nat} {v:Value} {i j:Nat} (h:JumpR w B g A code4 js N v i wr) (h5:Gr wr w5) (hi:js[i]?=some j) (hj:j<code4.length) (hB:B<w.heap.size):JumpR w B g A code4 js N v (i+1) (w5.setCell ⟨g,j*4+1,none⟩ (.int .i64 N)):=by
 obtain ⟨h1,h2,h3,h4⟩:=h
 have e:js.take (i+1)=js.take i++[j]:=by rw[List.take_add_one,hi];rfl
 have x:WX B wr (some g) (w5.setCell ⟨g,j*4+1,none⟩ (.int .i64 N)) (some g):=(WX.gr (some g) h5).set (p:=⟨g,j*4+1,none⟩) (.inr rfl) _
 refine ⟨?_,h2.trans x,own_wx h3 x hB (fun k hk=>h4 k hk),h4⟩
 rw[e,List.foldl_append]
 exact (h1.gr h5).putX (by rw[foldl_len];exact hj) N
theorem ways_put {w:World} {B lo hi:Nat} {A:Option Addr} {code:List In} (hB:WrtA w B A code) {KA:Option Addr} {n kc:Nat} {l:PcL} {bs:List Nat} (hc0:0<code.length) (hl:code.length+l.szW≤1016) (h2:hi≤B) (hr:Rkn lo hi w (.slice KA n kc) bs) (hn0:0<n) (hbs:n≤6000) (hin:l.In lo hi w bs) (hln:l.len=n)
  (HK:∀(ds:PcL) (p:Pc) (rest:PcL) (bk:Nat),l=ds.app (.cons p rest)→p.In lo hi w bk→∀m,0<m→m+p.sz≤1016→KidP lo hi B bk w p m) :
  Calls Tryz.prog 80 #[.pointer (some ⟨B,0,none⟩), .slice KA n kc] w (RetW w B A (code++l.layW code.length (code.length+l.szW))):=by
 have hst:WaysR w B A code l n 0 (.slice none 0 0) w:=⟨.nil,l,A,rfl,rfl,hn0,by simpa [PcL.layD] using hB,WX.refl _ _ _,World.ownsRow_nil _ _ _ _,fun g hg=>by cases hg⟩
 obtain ⟨i0,hi0,hz0,hz1,hz2⟩:=info_parts info_int
 have Hst:=Lib.hid hst
 have Hln:=Lib.hid hln
 have Hin:=Lib.hid (And.intro hin (And.intro hr HK))
 have Hi:=Lib.hid (And.intro hi0 (And.intro hz0 (And.intro hz1 hz2)))
 have hBz:=hB.lt
 have Hl:=Lib.hid hl
 clear hst hln hin hr HK hi0 hz0 hz1 hz2 hl
 go_enter Tryz.func80,Tryz.ntmps80
 go_wp2
 go_loopw [4,12] (fun v t wr=>∃k:Nat,t= .int .i64 k∧WaysR w B A code l n k v wr) (fun _ t _=>n-(intOf t).toNat)
 case atStart=>exact ⟨0,rfl,Hst.out⟩
 case round=>
  obtain ⟨k,rfl,ds,rest,A1,e1,e2,hlt,hB1,hX1,own,hvg⟩:=hrel
  match rest,e1 with
  | .nil,e1=>exfalso;have:=Hln.out;rw[e1,PcL.len_app] at this;simp only[PcL.len] at this;omega
  | .cons p rest,e1=>
  obtain ⟨hin,hr,HK⟩:=Hin.out
  have hin2:=hin
  rw[e1] at hin2
  obtain ⟨bk,hbk,hpin⟩:=hin2.get
  rw[e2] at hbk
  obtain ⟨-,ad,rfl,a0,a1,ha⟩:=hr.at_ hbk
  have hS1:=hB.same (lo:=lo) hX1 h2
  have ha1:=hS1.add a0 a1 ha
  have HP:=HK ds p rest bk e1 hpin
  obtain ⟨code1,hc1⟩:∃c,c=code++ds.layD code.length:=⟨_,rfl⟩
  obtain ⟨M,hM⟩:∃M,M=code1.length:=⟨_,rfl⟩
  have hM2:M=code.length+ds.szD:=by rw[hM,hc1,List.length_append,PcL.layD_len]
  rw[←hc1] at hB1
  obtain ⟨JA,jc,rfl⟩:=own_form own
  have hjl:=own.lt
  have Hown:=Lib.hid (And.intro own hvg)
  match rest,e1 with
  | .nil,e1=>
   have hsz:=PcL.szW_last ds p
   rw[←e1] at hsz
   have hkn:n=k+1:=by have:=Hln.out;rw[e1,PcL.len_app] at this;simp only[PcL.len] at this;omega
   have hMl:M+p.sz≤1016:=by have:=Hl.out;omega
   have htest:((k:Int)==(n:Int)-1)=true:=by simp;omega
   have HC:=HP M (by omega) hMl wr A1 code1 hB1 hS1 hM.symm
   have He:=Lib.hid (And.intro e1 (And.intro e2 (And.intro hkn hsz)))
   have Hh:=Lib.hid (And.intro hB1 hX1)
   have Hc1:=Lib.hid (And.intro hc1 (And.intro hM hM2))
   clear e1 e2 hkn hsz hB1 hX1 hc1 hM hM2 hin2 hbk ha hin HK HP hS1 hpin hr own hvg
   go_upto_region 11 with (go_at_call 47;refine HC.mono ?_;rintro e w2 ⟨rfl,A2,hB2,hX2⟩)
   clear HC htest
   obtain ⟨own,hvg⟩:=Hown.out
   have hv2:=hX2.row_ne hvg (fun k hk=>(hjl k hk).2)
   have own2:=own_wx own hX2 hBz hvg
   obtain ⟨hc1,hM,hM2⟩:=Hc1.out
   obtain ⟨e1,e2,hkn,hsz⟩:=He.out
   obtain ⟨code4,hc4⟩:∃c,c=code1++p.lay M:=⟨_,rfl⟩
   rw[←hc4] at hB2
   obtain ⟨N,hN⟩:∃N,N=code4.length:=⟨_,rfl⟩
   have hN2:N=code.length+l.szW:=by rw[hN,hc4,List.length_append,←hM,Pc.lay_len];omega
   obtain ⟨gA,rfl⟩:=hB2.form (by rw[←hN];omega)
   obtain ⟨js,hjs⟩:∃js,js=ds.jsD code.length:=⟨_,rfl⟩
   have hjk:js.length=k:=by rw[hjs,PcL.jsD_len];exact e2
   have hj0:∀j∈js,j<N:=by
    intro j hj
    rw[hjs,←PcL.js_last ds p,←e1] at hj
    have:=PcL.js_lt _ _ _ hj
    omega
   rw[←hjs,←hjk] at own2
   have hst2:JumpR w B gA A code4 js N (.slice JA k jc) 0 w2:=⟨hB2,Hh.out.2.trans hX2,hjk▸own2,hv2⟩
   have Hst2:=Lib.hid hst2
   have Hj0:=Lib.hid hj0
   have Hfin:=Lib.hid (And.intro hc1 (And.intro hM2 (And.intro e1 (And.intro hc4 (And.intro hN (And.intro hN2 (And.intro hjs hjk)))))))
   have hNl:N≤1016:=by have:=Hl.out;omega
   have hkb:k≤6000:=by omega
   clear own hvg hv2 own2 hc1 hM hM2 e1 e2 hkn hsz hB2 hX2 hc4 hN hN2 hjs hjk hj0 hst2 hjl ha1
   go_wp2
   go_loopw [52] (fun t wr=>∃i:Nat,t= .int .i64 i∧i≤k∧JumpR w B gA A code4 js N (.slice JA k jc) i wr) (fun t _=>k-(intOf t).toNat)
   case atStart=>exact ⟨0,rfl,Nat.zero_le _,Hst2.out⟩
   case round=>
    obtain ⟨i,rfl,hik,HJ⟩:=hrel
    by_cases hlt2:i<k
    ·
     obtain ⟨hc1,hM2,e1,hc4,hN,hN2,hjs,hjk⟩:=Hfin.out
     obtain ⟨hW1,hX5,own5,hv5⟩:=id HJ
     obtain ⟨gj,rfl⟩:∃gj,JA=some ⟨gj,0,none⟩:=by
      obtain ⟨_,⟨_,h0⟩|⟨g',cap,cur,hv,_⟩⟩:=own5
      ·
       omega
      ·
       injection hv with hv1
       exact ⟨g',hv1⟩
     obtain ⟨j,hj⟩:∃j,js[i]?=some j:=⟨_,List.getElem?_eq_getElem (by omega)⟩
     have hjN:=Hj0.out j (List.mem_of_getElem? hj)
     rw[hjk] at own5
     have hcell:=own5.cellAt i (by omega)
     rw[List.getElem?_map,hj] at hcell
     simp only[Option.map_some] at hcell
     obtain ⟨c5,hwc,hwf,ownc,hBw⟩:=hW1
     rw[foldl_len,←hN] at hwc ownc
     have hgz:=(ownc.lt gA rfl).2
     obtain ⟨u1,hu1⟩:∃u,wr.cell? ⟨gA,j*4+1,none⟩=some u:=by
      have:=ownc.cellAt (j*4+1) (by omega)
      rw[List.getElem?_eq_getElem (by have:=ownc.1;omega)] at this
      exact ⟨_,this⟩
     have hfr:=ownc.frozenAt (j*4+1)
     have hjN':(j:Int)<N:=by omega
     have HJ2:=Lib.hid (And.intro HJ (And.intro hj (by rw[←hN];exact hjN:j<code4.length)))
     clear HJ hc1 hM2 e1 hc4 hN hN2 hjs hjk hX5 own5 hv5 hj ownc
     go_upto_region 14 with (fail)
     clear hcell
     refine region_T 12 (by kernel_rfl) (by kernel_rfl) ?_
     simp only[List.take]
     iterate 3 (refine qv ?_;simp only[Pu])
     refine q_val (v:=?qv4) (by rfl) (fun W hW=>?qh4) ?qr4
     case qh4=>have g1:=(Below.cell hW (p:=⟨B,0,none⟩) hBw).trans hwc;go_simp;rfl
     simp only[Pu]
     iterate 4 (refine qv ?_;simp only[Pu])
     refine q_val (v:=?qv9) (by rfl) (fun W hW=>?qh9) ?qr9
     case qh9=>have g1:=(Below.cell hW (p:=⟨B,0,none⟩) hBw).trans hwc;go_simp;rfl
     simp only[Pu]
     iterate 3 (refine qv ?_;simp only[Pu])
     refine wpQuiet_nil ?_
     intro w5 hw5
     simp only[List.drop]
     have e1:=(Below.cell hw5 (p:=⟨gA,j*4+1,none⟩) hgz).trans hu1
     have e2:=(Below.frozen hw5 (p:=⟨gA,j*4+1,none⟩) hgz).trans hfr
     clear hu1 hfr hwc
     go_wp2
     go_roundw
     case rel=>exact ⟨i+1,by go_num,by omega,HJ2.out.1.next hw5 HJ2.out.2.1 HJ2.out.2.2 hBz⟩
     case measure=>simp[intOf];omega
    ·
     have hik2:i=k:=by omega
     subst hik2
     go_wp2
     go_end0
     obtain ⟨hc1,hM2,e1,hc4,hN,hN2,hjs,hjk⟩:=Hfin.out
     obtain ⟨hW1,hX5, -, -⟩:=HJ
     rw[List.take_of_length_le (by omega)] at hW1
     refine ⟨rfl,some ⟨gA,0,none⟩,?_,hX5⟩
     have e5:code4=code++l.layW code.length 0:=by rw[hc4,hc1,e1,PcL.layW_last,hM2];simp
     have e6:js=l.js code.length:=by rw[hjs,e1,PcL.js_last]
     rw[e5,e6,fold_layW N l code _ rfl,hN2] at hW1
     exact hW1
  | .cons q rest,e1=>
   have hsz:=PcL.szW_ge ds p q rest
   rw[←e1] at hsz
   have hkn:k+1<n:=by have:=Hln.out;rw[e1,PcL.len_app] at this;simp only[PcL.len] at this;omega
   have hMl:M+p.sz≤1014:=by have:=Hl.out;omega
   have htest:((k:Int)==(n:Int)-1)=false:=by simp;omega
   have He:=Lib.hid (And.intro e1 e2)
   have Hh:=Lib.hid (And.intro hB1 hX1)
   have hc1l:code1.length≤1014:=by omega
   have Hc1:=Lib.hid (And.intro hc1 (And.intro hM hM2))
   have hbz1:B<wr.heap.size:=hB1.lt
   have hbw1:w.heap.size≤wr.heap.size:=hX1.size
   clear e1 e2 hX1 hc1 hM hM2 hin2 hbk ha hin HK hpin hr own hvg hsz
   go_upto_region 7 with (go_at_call 46;refine (lays_one hB1 ⟨2,0,0,[]⟩ (by omega)).mono ?_;rintro e w2 ⟨rfl,A2,hB2,hX2⟩)
   rw[←Hc1.out.2.1]
   obtain ⟨code2,hc2⟩:∃c,c=code1++[⟨2,0,0,[]⟩]:=⟨_,rfl⟩
   rw[←hc2] at hB2
   have hl2:code2.length=M+1:=by rw[hc2,List.length_append,←Hc1.out.2.1];rfl
   have hS2:=hS1.trans (hB1.same (lo:=lo) hX2 h2)
   have HC:=HP (M+1) (by omega) (by omega) w2 A2 code2 hB2 hS2 hl2
   have Hc2:=Lib.hid (And.intro hc2 hl2)
   have Hh2:=Lib.hid hX2
   have hbw2:w.heap.size≤w2.heap.size:=by have:=hX2.size;omega
   clear hc2 hl2 hX2 hS1 HP
   go_upto_region 8 with (go_at_call 47;refine HC.mono ?_;rintro e w3 ⟨rfl,A3,hB3,hX3⟩)
   obtain ⟨code3,hc3⟩:∃c,c=code2++p.lay (M+1):=⟨_,rfl⟩
   rw[←hc3] at hB3
   obtain ⟨J,hJ⟩:∃J,J=code3.length:=⟨_,rfl⟩
   have hl3:J=M+1+p.sz:=by rw[hJ,hc3,List.length_append,Hc2.out.2,Pc.lay_len]
   have hc3l:code3.length≤1016:=by omega
   have Hc3:=Lib.hid (And.intro hc3 (And.intro hJ hl3))
   have Hh3:=Lib.hid (And.intro hB2 hX3)
   obtain ⟨own,hvg⟩:=Hown.out
   have hX2:=Hh2.out
   have hv2:=hX2.row_ne hvg (fun k hk=>(hjl k hk).2)
   have hlt2:∀g,(Value.slice JA k jc).ownBlock=some g→g<w2.heap.size:=fun g hg=>Nat.lt_of_lt_of_le (hjl g hg).2 hX2.size
   have hv3:=hX3.row_ne hv2 hlt2
   have hlt3:∀g,(Value.slice JA k jc).ownBlock=some g→g<w3.heap.size:=fun g hg=>Nat.lt_of_lt_of_le (hlt2 g hg) hX3.size
   have hbw3:w.heap.size≤w3.heap.size:=by have:=hX3.size;omega
   have own3:=own_wx (own_wx own hX2 hBz hvg) hX3 hBz hv2
   have Hown3:=Lib.hid (And.intro own3 (And.intro hv3 hlt3))
   have hnB:(Value.slice JA k jc).ownBlock≠some B:=fun e=>by have:=(hjl B e).1;omega
   clear own hvg hX2 hv2 hlt2 hv3 hlt3 own3 hjl hc3 hJ hl3 hB2 hX3 HC
   obtain ⟨hi0,hz0,hz1,hz2⟩:=Hi.out
   go_upto_region 9 with (first|(go_at_call 46;refine (lays_one hB3 ⟨3,0,0,[]⟩ (by omega)).mono ?_;rintro e w4 ⟨rfl,A4,hB4,hX4⟩;have own4:=(own_wx Hown3.out.1 hX4 hBz Hown3.out.2.1).alloc (.cells #[.int .i64 (code3.length:Int)] 3);have hv4:=Lib.hid (hX4.row_ne Hown3.out.2.1 Hown3.out.2.2);have hbw4:w.heap.size≤w4.heap.size:=(by have:=hX4.size;omega))|(at_builtin;refine wpList_append_rd rfl (.tmp 32) (.tmp 37) 87 rfl w.heap.size 3 i0 _ 1 8 Tryz.underlying87 hi0 hz0 hz1 hz2 rfl (by decide) _ k _ rfl own4 (some ⟨w4.heap.size,0,none⟩) 1 1 [.int .i64 (code3.length:Int)] rfl (Rd.byte rfl 3 _) (by intro u hu;simp at hu;subst hu;rfl) (by unfold maxLen;omega) (by omega) (by simp;omega) ?_;intro v9 w9 own9 hgr9 hob9;have hB9:=WrtA.grown (hB4.gr (Gr.alloc (Gr.refl _) _)) hgr9 hnB (fun k hk=>hv4.out k hk);have Hg9:=Lib.hid (And.intro own9 (And.intro hgr9 hob9));clear own9 hgr9 hob9))
   obtain ⟨code4,hc4⟩:∃c,c=code3++[⟨3,0,0,[]⟩]:=⟨_,rfl⟩
   rw[←hc4] at hB9
   obtain ⟨c4,hw4, -⟩:=id hB9
   obtain ⟨N,hN⟩:∃N,N=code4.length:=⟨_,rfl⟩
   have hN3:N=code3.length+1:=by rw[hN,hc4];simp
   have hMN:M<N:=by have:=Hc3.out.2.1;have:=Hc3.out.2.2;omega
   have hNl:N≤1017:=by omega
   rw[←hN] at hw4
   have HN:=Lib.hid (And.intro hN (And.intro hN3 hc4))
   have Hh4:=Lib.hid (And.intro hB4 (And.intro hX4 hB3))
   have hb9:B<w9.heap.size:=hB9.lt
   clear hN hN3 hc4 hB4 hX4 hB3 own4 hi0 hz0 hz1 hz2 hnB
   go_wp2_with (go_at_call 81;refine (splits_false hB9 (by rw[←HN.out.1];omega) M (by rw[←HN.out.1];exact hMN) _ _).mono ?_;rintro e w10 ⟨rfl,hB10,hX10⟩;have Hh10:=Lib.hid (And.intro hB10 hX10);clear hB10 hX10)
   go_roundw
   case rel=>
    obtain ⟨e1,e2⟩:=He.out
    obtain ⟨hB10,hX10⟩:=Hh10.out
    obtain ⟨own9,hgr9,hob9⟩:=Hg9.out
    obtain ⟨hc1,hM,hM2⟩:=Hc1.out
    obtain ⟨hc3,hJ,hl3⟩:=Hc3.out
    obtain ⟨hN,hN3,hc4⟩:=HN.out
    obtain ⟨own3,hv3,hlt3⟩:=Hown3.out
    have hX4:=Hh4.out.2.1
    have hv9:∀g,v9.ownBlock=some g→blk A4≠some g:=by
     intro g hg
     rcases hob9 with e|e
     ·
      exact hv4.out g (e▸hg)
     ·
      rw[e] at hg
      injection hg with hg
      intro e3
      have:=(Hh4.out.1.row g e3).2
      simp at hg
      omega
    refine ⟨k+1,by go_num,ds.app (.cons p .nil), .cons q rest,A4,?_,?_,hkn,?_,?_,?_,hv9⟩
    ·
     rw[e1];exact PcL.app_one _ _ _
    ·
     rw[PcL.len_app,e2];rfl
    ·
     rw[set_split (code:=code1) (v:=⟨2,0,0,[]⟩) (l:=p.lay (M+1)++[⟨3,0,0,[]⟩]) (by rw[hc4,hc3,Hc2.out.1];simp) hM] at hB10
     have e5:(N:Int)=(M:Int)+p.sz+2:=by omega
     rw[e5,hc1] at hB10
     rw[PcL.layD_one,←hM2,←List.append_assoc]
     exact hB10
    ·
     exact (((((Hh.out.2.trans Hh2.out).trans Hh3.out.2).trans hX4).trans (WX.gr _ (Gr.alloc (Gr.refl _) _))).grow_new hgr9 (fun g hg=>by
      have:=(Hown3.out.1.lt g hg).1
      exact this)).trans hX10
    ·
     rw[PcL.jsD_one,List.map_append]
     have e5:(((code.length+ds.szD+p.sz+1:Nat)):Int)=(code3.length:Int):=by omega
     simp only[List.map_cons,List.map_nil,e5]
     exact own_wx own9 hX10 hBz hv9
   case measure=>simp[intOf];omega
theorem put_ways {w:World} {B:Nat} {A:Option Addr} {code:List In} (hB:WrtA w B A code) (hl:code.length≤1016) {b:Nat} {kids:Value} (hn:Node w b 11 [] kids 0 false) {res:List In}
  (HW:Calls Tryz.prog 80 #[.pointer (some ⟨B,0,none⟩),kids] w (RetW w B A res)) :
  Calls Tryz.prog 47 #[.pointer (some ⟨B,0,none⟩), .pointer (some ⟨b,0,none⟩)] w (RetW w B A res):=by
 have hful:decide (1024<(code.length:Int))=false:=by simp;omega
 obtain ⟨n0,n1,n2,n3,n4⟩:=hn
 go_enter Tryz.func47,Tryz.ntmps47
 go_upto_region 10 with (go_at_call 48;refine (full_any hB).mono ?_;rintro e w1 ⟨rfl,rfl⟩)
 clear hful
 go_wp2_with (go_at_call 80;refine HW.mono ?_;rintro e w2 ⟨rfl,A2,hB2,hX2⟩;have Hx:=Lib.hid (And.intro hB2 hX2);clear hB2 hX2)
 go_end0
 exact ⟨rfl,A2,Hx.out.1,Hx.out.2⟩
def KP (p:Pc):Prop:=∀(w:World) (B:Nat) (A:Option Addr) (code:List In) (b lo hi:Nat),WrtA w B A code→p.In lo hi w b→hi≤B→0<code.length→code.length+p.sz≤1016→p.ok→
 Calls Tryz.prog 47 #[.pointer (some ⟨B,0,none⟩), .pointer (some ⟨b,0,none⟩)] w (RetW w B A (code++p.lay code.length))
theorem KP.kid {p:Pc} (h:KP p) {w:World} {B bk lo hi n:Nat} (hin:p.In lo hi w bk) (h2:hi≤B) (hn:0<n) (hs:n+p.sz≤1016) (hok:p.ok):KidP lo hi B bk w p n:=by
 intro w1 A1 code1 hB1 hS hl
 have:=h w1 B A1 code1 bk lo hi hB1 (Pc.In.same hS _ _ hin) h2 (by omega) (by omega) hok
 rwa [hl] at this
theorem PcL.ok_get:∀(ds:PcL) (p:Pc) (rest:PcL),(ds.app (.cons p rest)).ok→p.ok
 | .nil,p,rest,h=>h.1
 | .cons q l,p,rest,h=>PcL.ok_get l p rest h.2
mutual
theorem put_all:∀p:Pc,KP p
 | .leaf op ps=>fun w B A code b lo hi hB hin h2 h0 hs hok=>by
  simp only[Pc.In] at hin
  simp only[Pc.ok] at hok
  simp only[Pc.sz] at hs
  simp only[Pc.lay]
  exact put_leaf hB (by omega) (by omega) (by have:=hB.lt;omega) hin.2.2
 | .row l=>fun w B A code b lo hi hB hin h2 h0 hs hok=>by
  simp only[Pc.In] at hin
  simp only[Pc.ok] at hok
  simp only[Pc.sz] at hs
  simp only[Pc.lay]
  obtain ⟨b0,b1,kids,bs,hn,hr,hl⟩:=hin
  have hln:=hl.len
  refine put_row hB (by omega) b0 b1 h2 hr (by omega) hn hl fun ds p rest bk e hp=>?_
  have hk:=putL_all l ds p rest e
  rw[e] at hok hs
  rw[PcL.szR_app] at hs
  simp only[PcL.szR] at hs
  exact hk.kid hp h2 (by omega) (by omega) (PcL.ok_get ds p rest hok.2)
 | .ways l=>fun w B A code b lo hi hB hin h2 h0 hs hok=>by
  simp only[Pc.In] at hin
  simp only[Pc.ok] at hok
  simp only[Pc.sz] at hs
  simp only[Pc.lay]
  obtain ⟨b0,b1,kids,bs,hn,hr,hl⟩:=hin
  have hln:=hl.len
  obtain ⟨KA,kc,rfl, -⟩:=hr.form
  obtain ⟨⟨p0,m0,e0⟩,hl6,hok⟩:=hok
  refine put_ways hB (by omega) hn (ways_put hB h0 (by omega) h2 hr (by rw[←hln,e0];simp[PcL.len]) (by omega) hl hln fun ds p rest bk e hp m hm0 hm=>?_)
  have hk:=putL_all l ds p rest e
  rw[e] at hok
  exact hk.kid hp h2 hm0 hm (PcL.ok_get ds p rest hok)
 | .group g k=>fun w B A code b lo hi hB hin h2 h0 hs hok=>by
  simp only[Pc.In] at hin
  simp only[Pc.ok] at hok
  obtain ⟨b0,b1,kids,bk,hn,hr,hk⟩:=hin
  have ih:=put_all k
  simp only[Pc.lay]
  simp only[Pc.sz] at hs
  cases hg:(g==0)
  ·
   have hg0:0<g:=by have:=beq_eq_false_iff_ne.1 hg;omega
   simp only[hg,cond_false] at hs ⊢
   exact put_group hB hg0 hok.1 (by omega) b0 b1 h2 hr hn (ih.kid hk h2 (by omega) (by omega) hok.2)
  ·
   have hg0:g=0:=by simpa using hg
   subst hg0
   simp only[hg,cond_true] at hs ⊢
   exact put_group0 hB (by omega) b0 b1 h2 hr hn (ih.kid hk h2 (by omega) (by omega) hok.2)
 | .rep op z k=>fun w B A code b lo hi hB hin h2 h0 hs hok=>by
  simp only[Pc.In] at hin
  simp only[Pc.ok] at hok
  obtain ⟨b0,b1,kids,bk,hn,hr,hk⟩:=hin
  have ih:=put_all k
  obtain ⟨ho,hok⟩:=hok
  simp only[Pc.lay]
  simp only[Pc.sz] at hs
  rcases ho with rfl|rfl|rfl
  ·
   simp only[Nat.reduceBEq,cond_true] at hs ⊢
   have hK:=ih.kid (n:=code.length+1) hk h2 (by omega) (by omega) hok
   cases z
   ·
    exact put_star_false hB (by omega) b0 b1 h2 hr hn hK
   ·
    exact put_star_true hB (by omega) b0 b1 h2 hr hn hK
  ·
   simp only[Nat.reduceBEq,cond_true,cond_false] at hs ⊢
   have hK:=ih.kid (n:=code.length) hk h2 (by omega) (by omega) hok
   cases z
   ·
    exact put_plus_false hB (by omega) b0 b1 h2 hr hn hK
   ·
    exact put_plus_true hB (by omega) b0 b1 h2 hr hn hK
  ·
   simp only[Nat.reduceBEq,cond_false] at hs ⊢
   have hK:=ih.kid (n:=code.length+1) hk h2 (by omega) (by omega) hok
   cases z
   ·
    exact put_maybe_false hB (by omega) b0 b1 h2 hr hn hK
   ·
    exact put_maybe_true hB (by omega) b0 b1 h2 hr hn hK
theorem putL_all:∀(l ds:PcL) (p:Pc) (rest:PcL),l=ds.app (.cons p rest)→KP p
 | .nil,ds,p,rest,e=>by cases ds<;>(simp only[PcL.app] at e;cases e)
 | .cons q l, .nil,p,rest,e=>by
  simp only[PcL.app] at e
  injection e with e1 e2
  rw[←e1]
  exact put_all q
 | .cons q l, .cons r ds,p,rest,e=>by
  simp only[PcL.app] at e
  injection e with e1 e2
  exact putL_all l ds p rest e2
end
def grpX (s:List UInt8):Nat:=bif errX s==0 then (readS s).2.groups else 0
def codeY (s:List UInt8):List In:=bif errX s==0 then codeX s else []
def RetC (w:World) (l:List UInt8) (e:Ending) (w':World):Prop:=
 ∃A c,e= .returned (.tuple #[.agg #[.int .i64 (grpX l), .slice A (codeY l).length c], .int .i64 (errX l)])∧Ri w' A (codeY l)∧Gr w w'∧∀ad,A=some ad→ad=⟨ad.block,0,none⟩∧w.heap.size≤ad.block
theorem rdr_new (w:World) (s:ByteArray):Rdr (w.alloc (.cells #[.string s, .int .i64 0, .int .i64 0, .int .i64 0, .bool false, .bool false] 77)) w.heap.size s 0 ⟨s.data.toList,0,0,false,false⟩:=by
 refine ⟨by simp,rfl,?_,?_,?_,?_,?_,?_,?_,?_,?_,?_,?_,?_⟩
 all_goals go_simp
 all_goals try rfl
theorem wrt_new (w:World):WrtA (w.alloc (.cells #[.slice none 0 0] 82)) w.heap.size none []:=by
 refine ⟨0,?_,?_,World.ownsRow_nil _ _ _ _,by simp⟩
 all_goals go_simp
 all_goals try rfl
theorem Rd.two (w:World) (u v:In):Rd (w.alloc (.cells #[.int .i64 u.op, .int .i64 u.x, .int .i64 u.y, .string ⟨u.ps.toArray⟩, .int .i64 v.op, .int .i64 v.x, .int .i64 v.y, .string ⟨v.ps.toArray⟩] 85)) 4 (some ⟨w.heap.size,0,none⟩) 2 (icells [u,v]):=by
 refine ⟨rfl,fun _=>⟨_,rfl,by simp,fun j x hx=>?_⟩⟩
 have:=(World.ownsRow_lit (base:=0) (e:=85) (size:=4) w #[.int .i64 u.op, .int .i64 u.x, .int .i64 u.y, .string ⟨u.ps.toArray⟩, .int .i64 v.op, .int .i64 v.x, .int .i64 v.y, .string ⟨v.ps.toArray⟩] 2 (Nat.zero_le _) (by decide) rfl).cells (g:=w.heap.size) rfl j x (by simpa [icells] using hx)
 exact this
theorem lays_two {w:World} {B:Nat} {A:Option Addr} {code:List In} (h:WrtA w B A code) (u v:In) (hb:code.length≤4000) :
  Calls Tryz.prog 46 #[.pointer (some ⟨B,0,none⟩), .slice (some ⟨w.heap.size,0,none⟩) 2 2] (w.alloc (.cells #[.int .i64 u.op, .int .i64 u.x, .int .i64 u.y, .string ⟨u.ps.toArray⟩, .int .i64 v.op, .int .i64 v.x, .int .i64 v.y, .string ⟨v.ps.toArray⟩] 85)) fun e w'=>e= .returned (.int .i64 code.length)∧∃A',WrtA w' B A' (code++[u,v])∧WX B w (blk A) w' (blk A'):=by
 have g:=Gr.alloc (Gr.refl w) (.cells #[.int .i64 u.op, .int .i64 u.x, .int .i64 u.y, .string ⟨u.ps.toArray⟩, .int .i64 v.op, .int .i64 v.x, .int .i64 v.y, .string ⟨v.ps.toArray⟩] 85)
 refine (lays_any (h.gr g) _ 2 2 [u,v] rfl (by decide) (Rd.two w u v) (by omega)).mono ?_
 rintro e w' ⟨he,A',h1,h2⟩
 exact ⟨he,A',h1,(WX.gr _ g).trans h2⟩
theorem RetC.err {w w':World} {l:List UInt8} {n:Int} (h:errX l=n) (hn:(n==0)=false) (g:Gr w w'):RetC w l (.returned (.tuple #[.agg #[.int .i64 0, .slice none 0 0], .int .i64 n])) w':=by
 refine ⟨none,0,?_,?_,g,fun ad h=>by cases h⟩
 ·
  simp[grpX,codeY,h,hn]
 ·
  have:codeY l=[]:=by simp[codeY,h,hn]
  rw[this]
  exact Rd.nil _ _ _
theorem WX.gr_new {B:Nat} {w5 w1 w2:World} {g g2:Option Nat} (h:WX B w1 g w2 g2) (hw:Gr w5 w1) (hB:w5.heap.size≤B) (hg:∀k,g=some k→w5.heap.size≤k):Gr w5 w2:=
 ⟨h.os.trans hw.os,h.tape.trans hw.tape,h.output.trans hw.output,Nat.le_trans hw.size h.size,fun k hk=>(h.block k (Nat.lt_of_lt_of_le hk hw.size) (by omega) (fun e=>by have:=hg k e;omega)).trans (Below.block hw k hk)⟩
theorem lays_first (w:World):Calls Tryz.prog 46 #[.pointer (some ⟨w.heap.size,0,none⟩), .slice (some ⟨w.heap.size+1,0,none⟩) 1 1] ((w.alloc (.cells #[.slice none 0 0] 82)).alloc (.cells #[.int .i64 4, .int .i64 0, .int .i64 0, .string ⟨#[]⟩] 85)) fun e w'=>
  e= .returned (.int .i64 0)∧∃A',WrtA w' w.heap.size A' [⟨4,0,0,[]⟩]∧WX w.heap.size (w.alloc (.cells #[.slice none 0 0] 82)) none w' (blk A'):=by
 have h:=lays_one (wrt_new w) ⟨4,0,0,[]⟩ (by simp)
 have hz:(w.alloc (.cells #[.slice none 0 0] 82)).heap.size=w.heap.size+1:=by simp
 rw[hz] at h
 exact h
def WayOk (s:ByteArray):Prop:=∀w:World,Calls Tryz.prog 45 #[.pointer (some ⟨w.heap.size,0,none⟩)] (w.alloc (.cells #[.string s, .int .i64 0, .int .i64 0, .int .i64 0, .bool false, .bool false] 77)) fun e w'=>
   ∃(b n:Nat),e= .returned (.pointer (some ⟨b,0,none⟩))∧(readS s.data.toList).1.In w.heap.size w'.heap.size w' b∧Gr w w'∧Rdr w' w.heap.size s n (readS s.data.toList).2
theorem ways_read (w:World) (s:ByteArray) (hs:s.size≤500) :
  Calls Tryz.prog 45 #[.pointer (some ⟨w.heap.size,0,none⟩)] (w.alloc (.cells #[.string s, .int .i64 0, .int .i64 0, .int .i64 0, .bool false, .bool false] 77)) fun e w'=>
   ∃(b n:Nat),e= .returned (.pointer (some ⟨b,0,none⟩))∧(readS s.data.toList).1.In w.heap.size w'.heap.size w' b∧Gr w w'∧Rdr w' w.heap.size s n (readS s.data.toList).2:=by
 have hsz:s.data.toList.length=s.size:=by simp
 refine (ways_all (by omega) (s.data.toList.length+1) _ 0 _ (rdr_new w s) (Nat.lt_succ_self _) ⟨by simp only;omega,by simp only;omega⟩).mono ?_
 rintro e w' ⟨b,n,he,h1,h2,h3⟩
 refine ⟨b,n,he,?_,GX.gr (Gr.alloc (Gr.refl w) _) h2 (Nat.le_refl _),h3⟩
 have e:(w.alloc (.cells #[.string s, .int .i64 0, .int .i64 0, .int .i64 0, .bool false, .bool false] 77)).heap.size-1=w.heap.size:=by simp
 rw[e] at h1
 exact h1
theorem comp_over (s:ByteArray) (hs:s.size≤500) (w:World) (hv:(readS s.data.toList).2.over=true):Calls Tryz.prog 23 #[.string s] w (RetC w s.data.toList):=by
 have HE:=Lib.hid (by simp[errX,hv]:errX s.data.toList=12)
 have hs1:(s.size:Int)≤500:=by omega
 obtain ⟨q,hq⟩:∃q,q=(readS s.data.toList).2:=⟨_,rfl⟩
 obtain ⟨p,hp⟩:∃p,p=(readS s.data.toList).1:=⟨_,rfl⟩
 rw[←hq] at hv
 have Hq:=Lib.hid (And.intro hq hp)
 have HW:=ways_read (w.alloc (.cells #[.int .i64 0, .slice none 0 0] 55)) s hs
 rw[←hq,←hp] at HW
 have hzz:(w.alloc (.cells #[.int .i64 0, .slice none 0 0] 55)).heap.size=w.heap.size+1:=by simp
 rw[hzz] at HW
 clear hzz
 clear hq hp
 go_enter Tryz.func23,Tryz.ntmps23
 go_upto_region 5 with (go_at_call 45;refine HW.mono ?_;rintro e w3 ⟨b,m,rfl,hin,hg3,hR⟩)
 clear HW
 obtain ⟨c0,c1,c2,c4,c5⟩:=And.intro hR.c0 (And.intro hR.c1 (And.intro hR.c2 (And.intro hR.c4 hR.c5)))
 have hrz:=hR.lt
 have hrl:=hR.len
 have Hin:=Lib.hid (And.intro hin hR)
 have hz3:w.heap.size+1≤w3.heap.size:=by have:=hg3.size;simp at this;omega
 have hcb0:w3.cell? ⟨w.heap.size,0,none⟩=some (.int .i64 0):=(hg3.cell (p:=⟨w.heap.size,0,none⟩) (by simp)).trans (by go_simp)
 have hcb1:w3.cell? ⟨w.heap.size,1,none⟩=some (.slice none 0 0):=(hg3.cell (p:=⟨w.heap.size,1,none⟩) (by simp)).trans (by go_simp)
 have hfb0:w3.frozen? ⟨w.heap.size,0,none⟩=false:=(hg3.frozen (p:=⟨w.heap.size,0,none⟩) (by simp)).trans (by go_simp)
 have hfb1:w3.frozen? ⟨w.heap.size,1,none⟩=false:=(hg3.frozen (p:=⟨w.heap.size,1,none⟩) (by simp)).trans (by go_simp)
 clear hin hR
 rw[hv] at c5
 have hg9:=hg3
 go_wp2
 refine bodyPost_ret (v:= .tuple #[.agg #[.int .i64 0, .slice none 0 0], .int .i64 12]) (by simp[results,Tryz.results23,go_sem, *]) rfl ?_
 exact RetC.err HE.out rfl (((Gr.alloc (Gr.refl w) _).trans hg9).setCell (by simp) _ |>.setCell (by simp) _)
theorem comp_bad (s:ByteArray) (hs:s.size≤500) (w:World) (hv:(readS s.data.toList).2.over=false) (hb:(readS s.data.toList).2.bad=true):Calls Tryz.prog 23 #[.string s] w (RetC w s.data.toList):=by
 have HE:=Lib.hid (by simp[errX,hv,hb]:errX s.data.toList=8)
 have hs1:(s.size:Int)≤500:=by omega
 obtain ⟨q,hq⟩:∃q,q=(readS s.data.toList).2:=⟨_,rfl⟩
 obtain ⟨p,hp⟩:∃p,p=(readS s.data.toList).1:=⟨_,rfl⟩
 rw[←hq] at hv hb
 have Hq:=Lib.hid (And.intro hq hp)
 have HW:=ways_read (w.alloc (.cells #[.int .i64 0, .slice none 0 0] 55)) s hs
 rw[←hq,←hp] at HW
 have hzz:(w.alloc (.cells #[.int .i64 0, .slice none 0 0] 55)).heap.size=w.heap.size+1:=by simp
 rw[hzz] at HW
 clear hzz
 clear hq hp
 go_enter Tryz.func23,Tryz.ntmps23
 go_upto_region 5 with (go_at_call 45;refine HW.mono ?_;rintro e w3 ⟨b,m,rfl,hin,hg3,hR⟩)
 clear HW
 obtain ⟨c0,c1,c2,c4,c5⟩:=And.intro hR.c0 (And.intro hR.c1 (And.intro hR.c2 (And.intro hR.c4 hR.c5)))
 have hrz:=hR.lt
 have hrl:=hR.len
 have Hin:=Lib.hid (And.intro hin hR)
 have hz3:w.heap.size+1≤w3.heap.size:=by have:=hg3.size;simp at this;omega
 have hcb0:w3.cell? ⟨w.heap.size,0,none⟩=some (.int .i64 0):=(hg3.cell (p:=⟨w.heap.size,0,none⟩) (by simp)).trans (by go_simp)
 have hcb1:w3.cell? ⟨w.heap.size,1,none⟩=some (.slice none 0 0):=(hg3.cell (p:=⟨w.heap.size,1,none⟩) (by simp)).trans (by go_simp)
 have hfb0:w3.frozen? ⟨w.heap.size,0,none⟩=false:=(hg3.frozen (p:=⟨w.heap.size,0,none⟩) (by simp)).trans (by go_simp)
 have hfb1:w3.frozen? ⟨w.heap.size,1,none⟩=false:=(hg3.frozen (p:=⟨w.heap.size,1,none⟩) (by simp)).trans (by go_simp)
 clear hin hR
 rw[hv] at c5
 rw[hb] at c4
 clear hv hb hrl
 go_upto_region 7 with (fail)
 clear c5
 refine region_R (by kernel_rfl) (by kernel_rfl) ?_
 iterate 3 (refine rv ?_;simp only[Pu])
 refine r_val (v:=?qv4) (by kernel_rfl) (fun W hW=>?qh4) ?qr4
 case qh4=>have g1:=(Below.cell hW (p:=⟨w.heap.size+1,4,none⟩) hrz).trans c4;go_light;go_simp;rfl
 simp only[Pu]
 refine rv ?_;simp only[Pu]
 iterate 12 (refine rs ?_;simp only[Pu])
 iterate 2 (refine rv ?_;simp only[Pu])
 refine r_nil ?_
 intro w5 hw5
 have c0':=(Below.cell hw5 (p:=⟨w.heap.size+1,0,none⟩) hrz).trans c0
 have c2':=(Below.cell hw5 (p:=⟨w.heap.size+1,2,none⟩) hrz).trans c2
 have hb0':=(Below.cell hw5 (p:=⟨w.heap.size,0,none⟩) (by show w.heap.size<_;omega)).trans hcb0
 have hb1':=(Below.cell hw5 (p:=⟨w.heap.size,1,none⟩) (by show w.heap.size<_;omega)).trans hcb1
 have hf0':=(Below.frozen hw5 (p:=⟨w.heap.size,0,none⟩) (by show w.heap.size<_;omega)).trans hfb0
 have hf1':=(Below.frozen hw5 (p:=⟨w.heap.size,1,none⟩) (by show w.heap.size<_;omega)).trans hfb1
 have hg9:=hg3.trans hw5
 have hz5:w.heap.size+1<w5.heap.size:=Nat.lt_of_lt_of_le hrz hw5.size
 clear c0 c1 c2 c4 hcb0 hcb1 hfb0 hfb1
 go_wp2
 refine bodyPost_ret (v:= .tuple #[.agg #[.int .i64 0, .slice none 0 0], .int .i64 8]) (by simp[results,Tryz.results23,go_sem, *]) rfl ?_
 exact RetC.err HE.out rfl (((Gr.alloc (Gr.refl w) _).trans hg9).setCell (by simp) _ |>.setCell (by simp) _)
theorem comp_rest (s:ByteArray) (hs:s.size≤500) (w:World) (hv:(readS s.data.toList).2.over=false) (hb:(readS s.data.toList).2.bad=false) (hr:(readS s.data.toList).2.rest≠[]):Calls Tryz.prog 23 #[.string s] w (RetC w s.data.toList):=by
 have HE:=Lib.hid (by simp[errX,hv,hb,List.isEmpty_eq_false_iff.2 hr]:errX s.data.toList=8)
 have hs1:(s.size:Int)≤500:=by omega
 obtain ⟨q,hq⟩:∃q,q=(readS s.data.toList).2:=⟨_,rfl⟩
 obtain ⟨p,hp⟩:∃p,p=(readS s.data.toList).1:=⟨_,rfl⟩
 rw[←hq] at hv hb hr
 have Hq:=Lib.hid (And.intro hq hp)
 have HW:=ways_read (w.alloc (.cells #[.int .i64 0, .slice none 0 0] 55)) s hs
 rw[←hq,←hp] at HW
 have hzz:(w.alloc (.cells #[.int .i64 0, .slice none 0 0] 55)).heap.size=w.heap.size+1:=by simp
 rw[hzz] at HW
 clear hzz
 clear hq hp
 go_enter Tryz.func23,Tryz.ntmps23
 go_upto_region 5 with (go_at_call 45;refine HW.mono ?_;rintro e w3 ⟨b,m,rfl,hin,hg3,hR⟩)
 clear HW
 obtain ⟨c0,c1,c2,c4,c5⟩:=And.intro hR.c0 (And.intro hR.c1 (And.intro hR.c2 (And.intro hR.c4 hR.c5)))
 have hrz:=hR.lt
 have hrl:=hR.len
 have Hin:=Lib.hid (And.intro hin hR)
 have hz3:w.heap.size+1≤w3.heap.size:=by have:=hg3.size;simp at this;omega
 have hcb0:w3.cell? ⟨w.heap.size,0,none⟩=some (.int .i64 0):=(hg3.cell (p:=⟨w.heap.size,0,none⟩) (by simp)).trans (by go_simp)
 have hcb1:w3.cell? ⟨w.heap.size,1,none⟩=some (.slice none 0 0):=(hg3.cell (p:=⟨w.heap.size,1,none⟩) (by simp)).trans (by go_simp)
 have hfb0:w3.frozen? ⟨w.heap.size,0,none⟩=false:=(hg3.frozen (p:=⟨w.heap.size,0,none⟩) (by simp)).trans (by go_simp)
 have hfb1:w3.frozen? ⟨w.heap.size,1,none⟩=false:=(hg3.frozen (p:=⟨w.heap.size,1,none⟩) (by simp)).trans (by go_simp)
 clear hin hR
 rw[hv] at c5
 rw[hb] at c4
 have hr0:0<q.rest.length:=List.length_pos_iff.2 hr
 have hm:decide (m<s.size)=true:=by simp;omega
 clear hv hb hrl hr hr0
 go_upto_region 7 with (fail)
 clear c5
 refine region_R (by kernel_rfl) (by kernel_rfl) ?_
 iterate 3 (refine rv ?_;simp only[Pu])
 refine r_val (v:=?qv11) (by kernel_rfl) (fun W hW=>?qh11) ?qr11
 case qh11=>have g1:=(Below.cell hW (p:=⟨w.heap.size+1,4,none⟩) hrz).trans c4;go_light;go_simp;rfl
 simp only[Pu]
 iterate 5 (refine rv ?_;simp only[Pu])
 refine r_val (v:=?qv17) (by kernel_rfl) (fun W hW=>?qh17) ?qr17
 case qh17=>have g1:=(Below.cell hW (p:=⟨w.heap.size+1,1,none⟩) hrz).trans c1;go_light;go_simp;rfl
 simp only[Pu]
 iterate 4 (refine rv ?_;simp only[Pu])
 refine r_val (v:=?qv22) (by kernel_rfl) (fun W hW=>?qh22) ?qr22
 case qh22=>have g1:=(Below.cell hW (p:=⟨w.heap.size+1,0,none⟩) hrz).trans c0;go_light;go_simp;rfl
 simp only[Pu]
 iterate 4 (refine rv ?_;simp only[Pu])
 refine r_nil ?_
 intro w5 hw5
 have c0':=(Below.cell hw5 (p:=⟨w.heap.size+1,0,none⟩) hrz).trans c0
 have c2':=(Below.cell hw5 (p:=⟨w.heap.size+1,2,none⟩) hrz).trans c2
 have hb0':=(Below.cell hw5 (p:=⟨w.heap.size,0,none⟩) (by show w.heap.size<_;omega)).trans hcb0
 have hb1':=(Below.cell hw5 (p:=⟨w.heap.size,1,none⟩) (by show w.heap.size<_;omega)).trans hcb1
 have hf0':=(Below.frozen hw5 (p:=⟨w.heap.size,0,none⟩) (by show w.heap.size<_;omega)).trans hfb0
 have hf1':=(Below.frozen hw5 (p:=⟨w.heap.size,1,none⟩) (by show w.heap.size<_;omega)).trans hfb1
 have hg9:=hg3.trans hw5
 have hz5:w.heap.size+1<w5.heap.size:=Nat.lt_of_lt_of_le hrz hw5.size
 clear c0 c1 c2 c4 hcb0 hcb1 hfb0 hfb1
 clear hm
 go_wp2
 refine bodyPost_ret (v:= .tuple #[.agg #[.int .i64 0, .slice none 0 0], .int .i64 8]) (by simp[results,Tryz.results23,go_sem, *]) rfl ?_
 exact RetC.err HE.out rfl (((Gr.alloc (Gr.refl w) _).trans hg9).setCell (by simp) _ |>.setCell (by simp) _)
theorem comp_ok (s:ByteArray) (hs:s.size≤500) (w:World) (hWR:WayOk s) (hKP:KP (readS s.data.toList).1) (hv:(readS s.data.toList).2.over=false) (hb:(readS s.data.toList).2.bad=false) (hr:(readS s.data.toList).2.rest=[]):Calls Tryz.prog 23 #[.string s] w (RetC w s.data.toList):=by
 have hE:errX s.data.toList=0:=by simp[errX,hv,hb,hr]
 have HE:=Lib.hid hE
 have hsz:=readS_sz (s:=s.data.toList) (by simp;exact hs)
 have HG:=Lib.hid (And.intro (by simp[grpX,hE]:grpX s.data.toList=(readS s.data.toList).2.groups) (by simp[codeY,hE,codeX]:codeY s.data.toList=⟨4,0,0,[]⟩::((readS s.data.toList).1.lay 1++[⟨4,1,0,[]⟩,⟨7,0,0,[]⟩])))
 have hs1:(s.size:Int)≤500:=by omega
 obtain ⟨q,hq⟩:∃q,q=(readS s.data.toList).2:=⟨_,rfl⟩
 obtain ⟨p,hp⟩:∃p,p=(readS s.data.toList).1:=⟨_,rfl⟩
 rw[←hq] at hv hb hr HG
 rw[←hp] at HG hsz hKP
 have HKP:=Lib.hid hKP
 clear hKP
 obtain ⟨hsz1,hsz2⟩:=hsz
 have Hok:=Lib.hid hsz2
 clear hE hsz2
 have Hq:=Lib.hid (And.intro hq hp)
 have HW:=hWR (w.alloc (.cells #[.int .i64 0, .slice none 0 0] 55))
 clear hWR
 rw[←hq,←hp] at HW
 have hzz:(w.alloc (.cells #[.int .i64 0, .slice none 0 0] 55)).heap.size=w.heap.size+1:=by simp
 rw[hzz] at HW
 clear hzz
 clear hq hp
 go_enter Tryz.func23,Tryz.ntmps23
 go_upto_region 5 with (go_at_call 45;refine HW.mono ?_;rintro e w3 ⟨b,m,rfl,hin,hg3,hR⟩)
 clear HW
 obtain ⟨c0,c1,c2,c4,c5⟩:=And.intro hR.c0 (And.intro hR.c1 (And.intro hR.c2 (And.intro hR.c4 hR.c5)))
 have hrz:=hR.lt
 have hrl:=hR.len
 have Hin:=Lib.hid (And.intro hin hR)
 have hz3:w.heap.size+1≤w3.heap.size:=by have:=hg3.size;simp at this;omega
 have hcb0:w3.cell? ⟨w.heap.size,0,none⟩=some (.int .i64 0):=(hg3.cell (p:=⟨w.heap.size,0,none⟩) (by simp)).trans (by go_simp)
 have hcb1:w3.cell? ⟨w.heap.size,1,none⟩=some (.slice none 0 0):=(hg3.cell (p:=⟨w.heap.size,1,none⟩) (by simp)).trans (by go_simp)
 have hfb0:w3.frozen? ⟨w.heap.size,0,none⟩=false:=(hg3.frozen (p:=⟨w.heap.size,0,none⟩) (by simp)).trans (by go_simp)
 have hfb1:w3.frozen? ⟨w.heap.size,1,none⟩=false:=(hg3.frozen (p:=⟨w.heap.size,1,none⟩) (by simp)).trans (by go_simp)
 clear hin hR
 rw[hv] at c5
 rw[hb] at c4
 have hm:decide (m<s.size)=false:=by rw[hr] at hrl;simp at hrl ⊢;omega
 clear hv hb hrl hr
 go_upto_region 7 with (fail)
 clear c5
 refine region_R (by kernel_rfl) (by kernel_rfl) ?_
 iterate 3 (refine rv ?_;simp only[Pu])
 refine r_val (v:=?qv39) (by kernel_rfl) (fun W hW=>?qh39) ?qr39
 case qh39=>have g1:=(Below.cell hW (p:=⟨w.heap.size+1,4,none⟩) hrz).trans c4;go_light;go_simp;rfl
 simp only[Pu]
 iterate 5 (refine rv ?_;simp only[Pu])
 refine r_val (v:=?qv45) (by kernel_rfl) (fun W hW=>?qh45) ?qr45
 case qh45=>have g1:=(Below.cell hW (p:=⟨w.heap.size+1,1,none⟩) hrz).trans c1;go_light;go_simp;rfl
 simp only[Pu]
 iterate 4 (refine rv ?_;simp only[Pu])
 refine r_val (v:=?qv50) (by kernel_rfl) (fun W hW=>?qh50) ?qr50
 case qh50=>have g1:=(Below.cell hW (p:=⟨w.heap.size+1,0,none⟩) hrz).trans c0;go_light;go_simp;rfl
 simp only[Pu]
 iterate 4 (refine rv ?_;simp only[Pu])
 refine r_nil ?_
 intro w5 hw5
 have c0':=(Below.cell hw5 (p:=⟨w.heap.size+1,0,none⟩) hrz).trans c0
 have c2':=(Below.cell hw5 (p:=⟨w.heap.size+1,2,none⟩) hrz).trans c2
 have hb0':=(Below.cell hw5 (p:=⟨w.heap.size,0,none⟩) (by show w.heap.size<_;omega)).trans hcb0
 have hb1':=(Below.cell hw5 (p:=⟨w.heap.size,1,none⟩) (by show w.heap.size<_;omega)).trans hcb1
 have hf0':=(Below.frozen hw5 (p:=⟨w.heap.size,0,none⟩) (by show w.heap.size<_;omega)).trans hfb0
 have hf1':=(Below.frozen hw5 (p:=⟨w.heap.size,1,none⟩) (by show w.heap.size<_;omega)).trans hfb1
 have hg9:=hg3.trans hw5
 have hz5:w.heap.size+1<w5.heap.size:=Nat.lt_of_lt_of_le hrz hw5.size
 clear c0 c1 c2 c4 hcb0 hcb1 hfb0 hfb1
 clear hm c0'
 have Hg9:=Lib.hid (And.intro hg9 (And.intro hg3 hw5))
 have hz35:=hw5.size
 clear hg9 hg3 hw5
 go_upto_region 11 with (go_at_call 46;refine (lays_first w5).mono ?_;rintro e w6 ⟨rfl,A6,hB6,hX6⟩)
 obtain ⟨B,hB⟩:∃B,B=w5.heap.size:=⟨_,rfl⟩
 rw[←hB] at hB6 hX6 ⊢
 have hx6:WX B (w5.alloc (.cells #[.slice none 0 0] 82)) none w6 (blk A6):=hX6
 have hg6:Gr w5 w6:=hx6.gr_new (Gr.alloc (Gr.refl _) _) (by omega) (fun k h=>by cases h)
 have hS6:Same (w.heap.size+1) w3.heap.size w3 w6:=(Same.gr Hg9.out.2.2 (Nat.le_refl _)).trans (Same.gr hg6 hz35)
 have HP:=HKP.out w6 B A6 [⟨4,0,0,[]⟩] b (w.heap.size+1) w3.heap.size hB6 (Pc.In.same hS6 _ _ Hin.out.1) (by omega) (by decide) (by simp;omega) Hok.out
 have Hh6:=Lib.hid (And.intro hx6 hB6)
 have HB:=Lib.hid hB
 have hB5:w5.heap.size≤B:=Nat.le_of_eq hB.symm
 clear hx6 hg6 hS6 hX6 hB6 hB
 go_upto_region 12 with (go_at_call 47;refine HP.mono ?_;rintro e w7 ⟨rfl,A7,hB7,hX7⟩)
 clear HP
 obtain ⟨code7,hc7⟩:∃c:List In,c=[⟨4,0,0,[]⟩]++p.lay ([⟨4,0,0,[]⟩]:List In).length:=⟨_,rfl⟩
 rw[←hc7] at hB7
 have hl7:code7.length≤1001:=by rw[hc7,List.length_append,Pc.lay_len];simp;omega
 have Hc7:=Lib.hid hc7
 clear hc7
 go_upto_region 13 with (go_at_call 46;refine (lays_two hB7 ⟨4,1,0,[]⟩ ⟨7,0,0,[]⟩ (by omega)).mono ?_;rintro e w8 ⟨rfl,A8,hB8,hX8⟩)
 obtain ⟨code8,hc8⟩:∃c:List In,c=code7++[⟨4,1,0,[]⟩,⟨7,0,0,[]⟩]:=⟨_,rfl⟩
 rw[←hc8] at hB8
 have hful:decide (1024<(code8.length:Int))=false:=by rw[hc8];simp;omega
 have Hc8:=Lib.hid hc8
 have hX:=(Hh6.out.1.trans hX7).trans hX8
 have hg8:Gr w5 w8:=hX.gr_new (Gr.alloc (Gr.refl _) _) (by omega) (fun k h=>by cases h)
 have d2:=(hg8.cell (p:=⟨w.heap.size+1,2,none⟩) hz5).trans c2'
 have e0:=(hg8.cell (p:=⟨w.heap.size,0,none⟩) (by show w.heap.size<_;omega)).trans hb0'
 have e1:=(hg8.cell (p:=⟨w.heap.size,1,none⟩) (by show w.heap.size<_;omega)).trans hb1'
 have f0:=(hg8.frozen (p:=⟨w.heap.size,0,none⟩) (by show w.heap.size<_;omega)).trans hf0'
 have f1:=(hg8.frozen (p:=⟨w.heap.size,1,none⟩) (by show w.heap.size<_;omega)).trans hf1'
 have hz8:w.heap.size+1<w8.heap.size:=Nat.lt_of_lt_of_le hz5 hg8.size
 have Hg8:=Lib.hid (And.intro hg8 hB8)
 clear hc8 hB7 hX7 hX8 hX hg8 c2' hb0' hb1' hf0' hf1'
 go_upto_region 15 with (go_at_call 48;refine (full_any hB8).mono ?_;rintro e w8' ⟨rfl,rfl⟩)
 clear hful
 obtain ⟨c8,hw8, -⟩:=id hB8
 have hb8:=hB8.lt
 clear hB8
 refine region_T 9 (by kernel_rfl) (by kernel_rfl) ?_
 simp only[List.take]
 iterate 3 (refine qv ?_;simp only[Pu])
 refine q_val (v:=?qv30) (by rfl) (fun W hW=>?qh30) ?qr30
 case qh30=>have g1:=(Below.cell hW (p:=⟨w.heap.size+1,2,none⟩) hz8).trans d2;go_simp;rfl
 simp only[Pu]
 iterate 3 (refine qv ?_;simp only[Pu])
 refine q_val (v:=?qv34) (by rfl) (fun W hW=>?qh34) ?qr34
 case qh34=>have g1:=(Below.cell hW (p:=⟨B,0,none⟩) hb8).trans hw8;go_simp;rfl
 simp only[Pu]
 refine qv ?_;simp only[Pu]
 refine wpQuiet_nil ?_
 intro w9 hw9
 simp only[List.drop]
 have k0:=(Below.cell hw9 (p:=⟨w.heap.size,0,none⟩) (by show w.heap.size<_;omega)).trans e0
 have k1:=(Below.cell hw9 (p:=⟨w.heap.size,1,none⟩) (by show w.heap.size<_;omega)).trans e1
 have l0:=(Below.frozen hw9 (p:=⟨w.heap.size,0,none⟩) (by show w.heap.size<_;omega)).trans f0
 have l1:=(Below.frozen hw9 (p:=⟨w.heap.size,1,none⟩) (by show w.heap.size<_;omega)).trans f1
 have hz9:w.heap.size+1<w9.heap.size:=Nat.lt_of_lt_of_le hz8 hw9.size
 clear d2 e0 e1 f0 f1 hw8
 go_wp2
 refine bodyPost_ret (v:= .tuple #[.agg #[.int .i64 q.groups, .slice A8 code8.length c8], .int .i64 0]) (by simp[results,Tryz.results23,go_sem, *]) rfl ?_
 have hcode:code8=codeY s.data.toList:=by rw[Hc8.out,Hc7.out,HG.out.2];simp
 obtain ⟨hg8,hB8⟩:=Hg8.out
 obtain ⟨c', -, -,own, -⟩:=hB8.gr hw9
 have hgw:Gr w w9:=((Gr.alloc (Gr.refl w) _).trans Hg9.out.1).trans (hg8.trans hw9)
 refine ⟨A8,c8,?_,?_,(hgw.setCell (by simp) _).setCell (by simp) _,fun ad h=>?_⟩
 ·
  rw[HE.out,HG.out.1,hcode]
 ·
  rw[←hcode]
  exact Rd.own (own_setX (own_setX own (p:=⟨w.heap.size,0,none⟩) (by show w.heap.size<_;omega) _) (p:=⟨w.heap.size,1,none⟩) (by show w.heap.size<_;omega) _)
 ·
  have h5:=(own.lt ad.block (by rw[h];rfl)).1
  obtain ⟨g,hg⟩:=hB8.form (by rw[Hc8.out];simp)
  rw[hg] at h
  injection h with h
  subst h
  exact ⟨rfl,by have h6:B+1≤g:=h5;show w.heap.size≤g;omega⟩
theorem compile_any (s:ByteArray) (hs:s.size≤500) (w:World):Calls Tryz.prog 23 #[.string s] w (RetC w s.data.toList):=by
 cases hv:(readS s.data.toList).2.over with
 | true=>exact comp_over s hs w hv
 | false=>
  cases hb:(readS s.data.toList).2.bad with
  | true=>exact comp_bad s hs w hv hb
  | false=>
   by_cases hr:(readS s.data.toList).2.rest=[]
   ·
    exact comp_ok s hs w (fun w=>ways_read w s hs) (put_all _) hv hb hr
   ·
    exact comp_rest s hs w hv hb hr
mutual
def Pc.pk:Pc→Prop
 | .leaf _ ps=>ps.length≤600
 | .row l=>l.pk
 | .ways l=>l.pk
 | .group _ k=>k.pk
 | .rep _ _ k=>k.pk
def PcL.pk:PcL→Prop
 | .nil=>True
 | .cons p l=>p.pk∧l.pk
end
def PkI (l:List In):Prop:=∀v∈l,v.ps.length≤600
theorem PkI.app {l m:List In} (h:PkI l) (k:PkI m):PkI (l++m):=fun v hv=>by
 rcases List.mem_append.1 hv with h1|h1
 ·
  exact h v h1
 ·
  exact k v h1
theorem PkI.cons {v:In} {m:List In} (h:v.ps.length≤600) (k:PkI m):PkI (v::m):=fun u hu=>by
 rcases List.mem_cons.1 hu with h1|h1
 ·
  rw[h1];exact h
 ·
  exact k u h1
theorem PkI.nil:PkI []:=fun v hv=>by cases hv
theorem splitI_pk (z:Bool) (a b:Nat):(splitI z a b).ps.length≤600:=by cases z<;>simp[splitI]
mutual
theorem Pc.lay_pk (p:Pc):∀at_,p.pk→PkI (p.lay at_):=by
 intro at_ h
 match p,h with
 | .leaf op ps,h=>exact PkI.cons h PkI.nil
 | .row l,h=>exact PcL.layR_pk l at_ h
 | .ways l,h=>exact PcL.layW_pk l at_ _ h
 | .group g k,h=>
  simp only[Pc.lay]
  cases (g==0)
  ·
   simp only[cond_false]
   exact PkI.cons (by simp) ((Pc.lay_pk k _ h).app (PkI.cons (by simp) PkI.nil))
  ·
   simp only[cond_true]
   exact Pc.lay_pk k _ h
 | .rep op z k,h=>
  simp only[Pc.lay]
  cases (op==42)
  ·
   simp only[cond_false]
   cases (op==43)
   ·
    simp only[cond_false]
    exact PkI.cons (splitI_pk _ _ _) (Pc.lay_pk k _ h)
   ·
    simp only[cond_true]
    exact (Pc.lay_pk k _ h).app (PkI.cons (splitI_pk _ _ _) PkI.nil)
  ·
   simp only[cond_true]
   exact PkI.cons (splitI_pk _ _ _) ((Pc.lay_pk k _ h).app (PkI.cons (by simp) PkI.nil))
theorem PcL.layR_pk (l:PcL):∀at_,l.pk→PkI (l.layR at_):=by
 intro at_ h
 match l,h with
 | .nil,_=>exact PkI.nil
 | .cons p l,h=>
  simp only[PcL.layR]
  exact (Pc.lay_pk p _ h.1).app (PcL.layR_pk l _ h.2)
theorem PcL.layW_pk (l:PcL):∀at_ e,l.pk→PkI (l.layW at_ e):=by
 intro at_ e h
 match l,h with
 | .nil,_=>exact PkI.nil
 | .cons p .nil,h=>exact Pc.lay_pk p _ h.1
 | .cons p (.cons q l),h=>
  simp only[PcL.layW]
  exact PkI.cons (by simp) ((Pc.lay_pk p _ h.1).app (PkI.cons (by simp) (PcL.layW_pk (.cons q l) _ _ h.2)))
end
theorem pairsS_len (f:Bs):(pairsS f).length≤600:=by
 have:=pairsT_len f 256
 unfold pairsS
 omega
theorem failS_pk (s:Rs):(failS s).1.pk:=trivial
theorem setS_pk (s:Rs) (x:Option Bs×List UInt8):(setS s x).1.pk:=by
 obtain ⟨_|f,q⟩:=x
 ·
  exact failS_pk _
 ·
  exact pairsS_len f
section
variable {W:Rs→Pc×Rs} (hW:∀s,(W s).1.pk)
include hW
theorem groupS_pk (s:Rs):(groupS W s).1.pk:=by
 unfold groupS
 cases Nat.ble 64 s.deep
 ·
  simp only[cond_false]
  cases ((W (openS {s with deep:=s.deep+1}).2).2.bad || !headIs 41 (W (openS {s with deep:=s.deep+1}).2).2.rest)
  ·
   exact hW _
  ·
   exact failS_pk _
 ·
  exact failS_pk _
theorem atomS_pk (s:Rs):(atomS W s).1.pk:=by
 unfold atomS
 split
 ·
  exact failS_pk _
 ·
  rename_i c r hr
  cases (c.toNat==40)
  rotate_left
  ·
   exact groupS_pk hW _
  cases (c.toNat==94)
  rotate_left
  ·
   exact Nat.zero_le _
  cases (c.toNat==36)
  rotate_left
  ·
   exact Nat.zero_le _
  cases (c.toNat==46)
  rotate_left
  ·
   exact pairsS_len _
  cases (c.toNat==91)
  rotate_left
  ·
   exact setS_pk _ _
  cases (c.toNat==92)
  rotate_left
  ·
   exact setS_pk _ _
  cases stopC c.toNat
  ·
   exact pairsS_len _
  ·
   exact failS_pk _
theorem pieceS_pk (s:Rs):(pieceS W s).1.pk:=by
 have h0:=atomS_pk hW s
 unfold pieceS
 generalize atomS W s=t at h0 ⊢
 simp only
 cases t.2.bad
 ·
  simp only[cond_false]
  split
  ·
   exact h0
  ·
   rename_i d q _
   cases repC d.toNat
   ·
    exact h0
   ·
    exact h0
 ·
  exact h0
theorem rowS_pk (k:Nat):∀s,(rowS W k s).1.pk:=by
 induction k with
 | zero=>intro s;trivial
 | succ k ih=>
  intro s
  unfold rowS
  cases (s.bad||endR s.rest)
  ·
   exact ⟨pieceS_pk hW s,ih _⟩
  ·
   trivial
theorem altS_pk (k:Nat):∀s,(altS W k s).1.pk:=by
 induction k with
 | zero=>intro s;trivial
 | succ k ih=>
  intro s
  unfold altS
  simp only
  cases (!(rowP W s).2.bad&&headIs 124 (rowP W s).2.rest)
  ·
   exact ⟨rowS_pk hW _ s,trivial⟩
  ·
   exact ⟨rowS_pk hW _ s,ih _⟩
end
theorem lone_pk {l:PcL} (h:l.pk):(lone l).pk:=by
 match l,h with
 | .nil,_=>trivial
 | .cons p .nil,h=>exact h.1
 | .cons p (.cons q m),h=>exact h
theorem waysS_pk (n:Nat):∀s,(waysS n s).1.pk:=by
 induction n with
 | zero=>intro s;exact failS_pk s
 | succ n ih=>intro s;exact lone_pk (altS_pk ih _ s)
theorem code_sizes {l:List UInt8} (h:l.length≤500):(codeY l).length≤2000∧grpX l≤1000∧∀v∈codeY l,v.ps.length≤100000:=by
 have h1:=(readS_sz h).1
 have h2:=waysS_gd (l.length+1) ⟨l,0,0,false,false⟩
 have h3:=waysS_pk (l.length+1) ⟨l,0,0,false,false⟩
 have hg:=h2.g
 simp only at hg
 refine ⟨?_,?_,fun v hv=>?_⟩
 ·
  unfold codeY
  cases (errX l==0)
  ·
   simp
  ·
   simp only[cond_true,codeX,List.length_cons,List.length_append,Pc.lay_len,List.length_nil]
   omega
 ·
  unfold grpX
  cases (errX l==0)
  ·
   simp
  ·
   simp only[cond_true,readS]
   omega
 ·
  have:PkI (codeY l):=by
   unfold codeY
   cases (errX l==0)
   ·
    exact PkI.nil
   ·
    simp only[cond_true,codeX]
    exact PkI.cons (by simp) ((Pc.lay_pk _ _ h3).app (PkI.cons (by simp) (PkI.cons (by simp) PkI.nil)))
  have:=this v hv
  omega
end Go.Proofs.YtnphdacibageiaaGreat
