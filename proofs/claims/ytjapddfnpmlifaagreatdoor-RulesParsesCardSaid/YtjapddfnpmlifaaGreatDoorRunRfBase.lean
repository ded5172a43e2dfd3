import Derived.Test.YtjapddfnpmlifaaGreatDoorRunRxComp
import Derived.Test.YtjapddfnpmlifaaGreatDoorRunFxBase
set_option linter.all false
set_option maxRecDepth 1000000
set_option maxHeartbeats 12800000
namespace Go.Proofs.YtjapddfnpmlifaaGreatDoor
open Go.RowKit
theorem info_rinst:(Tryz.prog.info? 143).map (λi=>(i.zero,i.size,i.bytes))=some (some (.agg #[.int .i64 0, .int .i64 0, .int .i64 0, .string ⟨#[]⟩]),4,40):=by kernel_rfl
structure RfC (w:World) (R:Nat) (s:ByteArray) (n d e g:Nat) (A:Option Addr) (code:List In) (c:Nat):Prop where
 c0:w.cell? ⟨R,0,none⟩=some (.string s)
 c1:w.cell? ⟨R,1,none⟩=some (.int .i64 n)
 c2:w.cell? ⟨R,2,none⟩=some (.int .i64 d)
 c3:w.cell? ⟨R,3,none⟩=some (.int .i64 e)
 c4:w.cell? ⟨R,4,none⟩=some (.int .i64 g)
 c5:w.cell? ⟨R,5,none⟩=some (.slice A code.length c)
 f1:w.frozen? ⟨R,1,none⟩=false
 f2:w.frozen? ⟨R,2,none⟩=false
 f3:w.frozen? ⟨R,3,none⟩=false
 f4:w.frozen? ⟨R,4,none⟩=false
 f5:w.frozen? ⟨R,5,none⟩=false
 own:w.ownsRow (R+1) 143 4 (.slice A code.length c) code.length (icells code)
 lt:R<w.heap.size
def RfW (w:World) (R:Nat) (s:ByteArray) (n d e g:Nat) (A:Option Addr) (code:List In):Prop:=∃c,RfC w R s n d e g A code c
theorem RfW.setAt {w:World} {R n d e g:Nat} {s:ByteArray} {A:Option Addr} {code:List In} (h:RfW w R s n d e g A code) (n':Nat):RfW (w.setCell ⟨R,1,none⟩ (.int .i64 n')) R s n' d e g A code:=by
 obtain ⟨c,h⟩:=h;refine ⟨c,(World.cell?_setCell_other w ⟨R,1,none⟩ ⟨R,0,none⟩ _ (by simp)).trans h.c0,?_,(World.cell?_setCell_other w ⟨R,1,none⟩ ⟨R,2,none⟩ _ (by simp)).trans h.c2,(World.cell?_setCell_other w ⟨R,1,none⟩ ⟨R,3,none⟩ _ (by simp)).trans h.c3,(World.cell?_setCell_other w ⟨R,1,none⟩ ⟨R,4,none⟩ _ (by simp)).trans h.c4,(World.cell?_setCell_other w ⟨R,1,none⟩ ⟨R,5,none⟩ _ (by simp)).trans h.c5,by rw[World.frozen?_setCell];exact h.f1,by rw[World.frozen?_setCell];exact h.f2,by rw[World.frozen?_setCell];exact h.f3,by rw[World.frozen?_setCell];exact h.f4,by rw[World.frozen?_setCell];exact h.f5,own_setX h.own (p:=⟨R,1,none⟩) (Nat.lt_succ_self _) _,by simpa using h.lt⟩;have k1:=h.c1;have k2:=h.f1;go_simp
theorem RfW.setDeep {w:World} {R n d e g:Nat} {s:ByteArray} {A:Option Addr} {code:List In} (h:RfW w R s n d e g A code) (d':Nat):RfW (w.setCell ⟨R,2,none⟩ (.int .i64 d')) R s n d' e g A code:=by
 obtain ⟨c,h⟩:=h;refine ⟨c,(World.cell?_setCell_other w ⟨R,2,none⟩ ⟨R,0,none⟩ _ (by simp)).trans h.c0,(World.cell?_setCell_other w ⟨R,2,none⟩ ⟨R,1,none⟩ _ (by simp)).trans h.c1,?_,(World.cell?_setCell_other w ⟨R,2,none⟩ ⟨R,3,none⟩ _ (by simp)).trans h.c3,(World.cell?_setCell_other w ⟨R,2,none⟩ ⟨R,4,none⟩ _ (by simp)).trans h.c4,(World.cell?_setCell_other w ⟨R,2,none⟩ ⟨R,5,none⟩ _ (by simp)).trans h.c5,by rw[World.frozen?_setCell];exact h.f1,by rw[World.frozen?_setCell];exact h.f2,by rw[World.frozen?_setCell];exact h.f3,by rw[World.frozen?_setCell];exact h.f4,by rw[World.frozen?_setCell];exact h.f5,own_setX h.own (p:=⟨R,2,none⟩) (Nat.lt_succ_self _) _,by simpa using h.lt⟩;have k1:=h.c2;have k2:=h.f2;go_simp
theorem RfW.setErr {w:World} {R n d e g:Nat} {s:ByteArray} {A:Option Addr} {code:List In} (h:RfW w R s n d e g A code) (e':Nat):RfW (w.setCell ⟨R,3,none⟩ (.int .i64 e')) R s n d e' g A code:=by
 obtain ⟨c,h⟩:=h;refine ⟨c,(World.cell?_setCell_other w ⟨R,3,none⟩ ⟨R,0,none⟩ _ (by simp)).trans h.c0,(World.cell?_setCell_other w ⟨R,3,none⟩ ⟨R,1,none⟩ _ (by simp)).trans h.c1,(World.cell?_setCell_other w ⟨R,3,none⟩ ⟨R,2,none⟩ _ (by simp)).trans h.c2,?_,(World.cell?_setCell_other w ⟨R,3,none⟩ ⟨R,4,none⟩ _ (by simp)).trans h.c4,(World.cell?_setCell_other w ⟨R,3,none⟩ ⟨R,5,none⟩ _ (by simp)).trans h.c5,by rw[World.frozen?_setCell];exact h.f1,by rw[World.frozen?_setCell];exact h.f2,by rw[World.frozen?_setCell];exact h.f3,by rw[World.frozen?_setCell];exact h.f4,by rw[World.frozen?_setCell];exact h.f5,own_setX h.own (p:=⟨R,3,none⟩) (Nat.lt_succ_self _) _,by simpa using h.lt⟩;have k1:=h.c3;have k2:=h.f3;go_simp
theorem RfW.setGroups {w:World} {R n d e g:Nat} {s:ByteArray} {A:Option Addr} {code:List In} (h:RfW w R s n d e g A code) (g':Nat):RfW (w.setCell ⟨R,4,none⟩ (.int .i64 g')) R s n d e g' A code:=by
 obtain ⟨c,h⟩:=h;refine ⟨c,(World.cell?_setCell_other w ⟨R,4,none⟩ ⟨R,0,none⟩ _ (by simp)).trans h.c0,(World.cell?_setCell_other w ⟨R,4,none⟩ ⟨R,1,none⟩ _ (by simp)).trans h.c1,(World.cell?_setCell_other w ⟨R,4,none⟩ ⟨R,2,none⟩ _ (by simp)).trans h.c2,(World.cell?_setCell_other w ⟨R,4,none⟩ ⟨R,3,none⟩ _ (by simp)).trans h.c3,?_,(World.cell?_setCell_other w ⟨R,4,none⟩ ⟨R,5,none⟩ _ (by simp)).trans h.c5,by rw[World.frozen?_setCell];exact h.f1,by rw[World.frozen?_setCell];exact h.f2,by rw[World.frozen?_setCell];exact h.f3,by rw[World.frozen?_setCell];exact h.f4,by rw[World.frozen?_setCell];exact h.f5,own_setX h.own (p:=⟨R,4,none⟩) (Nat.lt_succ_self _) _,by simpa using h.lt⟩;have k1:=h.c4;have k2:=h.f4;go_simp
theorem RfW.lt {w:World} {R n d e g:Nat} {s:ByteArray} {A:Option Addr} {code:List In} (h:RfW w R s n d e g A code):R<w.heap.size:=h.choose_spec.lt
theorem RfW.row {w:World} {R n d e g:Nat} {s:ByteArray} {A:Option Addr} {code:List In} (h:RfW w R s n d e g A code):∀k,blk A=some k->R<k/\k<w.heap.size:=by
 obtain ⟨c,h⟩:=h;intro k hk;have:=h.own.lt k (by
  cases A with
  | none=>cases hk
  | some a=>exact hk)
 omega
theorem RfW.kept {w w':World} {R n d e g:Nat} {s:ByteArray} {A:Option Addr} {code:List In} (h:RfW w R s n d e g A code) (hs:w.heap.size<=w'.heap.size) (hb:w'.heap[R]?=w.heap[R]?) (hk:∀k,blk A=some k->w'.heap[k]?=w.heap[k]?):RfW w' R s n d e g A code:=by
 obtain ⟨c,h⟩:=h;have hx:∀i,w'.cell? ⟨R,i,none⟩=w.cell? ⟨R,i,none⟩:=λi=>World.cell?_of_block (a:=⟨R,i,none⟩) hb;have hy:∀i,w'.frozen? ⟨R,i,none⟩=w.frozen? ⟨R,i,none⟩:=λi=>World.frozen?_of_block (a:=⟨R,i,none⟩) hb;refine ⟨c,(hx 0).trans h.c0,(hx 1).trans h.c1,(hx 2).trans h.c2,(hx 3).trans h.c3,(hx 4).trans h.c4,(hx 5).trans h.c5,(hy 1).trans h.f1,(hy 2).trans h.f2,(hy 3).trans h.f3,(hy 4).trans h.f4,(hy 5).trans h.f5,?_,Nat.lt_of_lt_of_le h.lt hs⟩;obtain ⟨k1,⟨hv,k2⟩|⟨q,cap,cur,hv,hb',hh,k2⟩⟩:=h.own
 ·exact ⟨k1, .inl ⟨hv,k2⟩⟩
 ·refine ⟨k1, .inr ⟨q,cap,cur,hv,hb',(hk q ?_).trans hh,k2⟩⟩;injection hv with hv1;rw[hv1];rfl
theorem RfW.gr {w w':World} {R n d e g:Nat} {s:ByteArray} {A:Option Addr} {code:List In} (h:RfW w R s n d e g A code) (x:Gr w w'):RfW w' R s n d e g A code:=
 h.kept x.size (Below.block x R h.lt) λk hk=>Below.block x k (h.row k hk).2
def mvI (by_:Int) (v:In):In:=⟨v.op,bif v.op==2||v.op==3 then v.x+by_ else v.x,bif v.op==2 then v.y+by_ else v.y,v.ps⟩
def mvL (by_:Int) (l:List In):List In:=l.map (mvI by_)
theorem mvI_mvI (a b:Int) (v:In):mvI b (mvI a v)=mvI (a+b) v:=by
 unfold mvI;cases (v.op==2||v.op==3)<;>cases (v.op==2)<;>simp<;>omega
theorem mvL_mvL (a b:Int) (l:List In):mvL b (mvL a l)=mvL (a+b) l:=by
 unfold mvL;rw[List.map_map];apply List.map_congr_left;intro v _;exact mvI_mvI a b v
theorem mvL_app (a:Int) (l m:List In):mvL a (l++m)=mvL a l++mvL a m:=by simp[mvL]
theorem mvL_len (a:Int) (l:List In):(mvL a l).length=l.length:=by simp[mvL]
mutual
theorem Pc.mv (k:Nat):∀(p:Pc),p.ok->∀a:Nat,mvL k (p.lay a)=p.lay (a+k)
 | .leaf op ps,h,a=>by
  simp only[Pc.ok] at h;simp only[Pc.lay,mvL,List.map_cons,List.map_nil];rcases h with rfl|rfl|rfl<;>rfl
 | .row l,h,a=>by simp only[Pc.ok] at h;simp only[Pc.lay];exact PcL.mvR k l h.2 a
 | .ways l,h,a=>by
  simp only[Pc.ok] at h;simp only[Pc.lay];rw[PcL.mvW k l h.2.2 a]
  congr 1
  omega
 | .group g p,h,a=>by
  simp only[Pc.ok] at h;simp only[Pc.lay];have ih:=Pc.mv k p h.2;cases (g==0)
  ·simp only[cond_false];rw[show a+k+1=a+1+k by omega,<-ih (a+1)];simp[mvL,mvI]
  ·simp only[cond_true];exact ih a
 | .rep op z p,h,a=>by
  simp only[Pc.ok] at h;have ih:=Pc.mv k p h.2;simp only[Pc.lay];have e1:a+k+1=a+1+k:=by omega
  cases (op==42)
  ·cases (op==43)
   ·simp only[cond_false];rw[e1,<-ih (a+1)];cases z<;>(simp[mvL,mvI,splitI];omega)
   ·simp only[cond_true,cond_false];rw[<-ih a];cases z<;>(simp[mvL,mvI,splitI];omega)
  ·simp only[cond_true];rw[e1,<-ih (a+1)];cases z<;>(simp[mvL,mvI,splitI];omega)
theorem PcL.mvR (k:Nat):∀(l:PcL),l.ok->∀a:Nat,mvL k (l.layR a)=l.layR (a+k)
 | .nil,h,a=>rfl
 | .cons p l,h,a=>by
  simp only[PcL.ok] at h;simp only[PcL.layR];rw[mvL_app,Pc.mv k p h.1 a,PcL.mvR k l h.2 (a+p.sz),show a+k+p.sz=a+p.sz+k by omega]
theorem PcL.mvW (k:Nat):∀(l:PcL),l.ok->∀a e:Nat,mvL k (l.layW a e)=l.layW (a+k) (e+k)
 | .nil,h,a,e=>rfl
 | .cons p .nil,h,a,e=>by
  simp only[PcL.ok] at h;simp only[PcL.layW];exact Pc.mv k p h.1 a
 | .cons p (.cons q l),h,a,e=>by
  simp only[PcL.ok] at h;have ih:=PcL.mvW k (.cons q l) h.2 (a+p.sz+2) e;simp only[PcL.layW];rw[show a+k+1=a+1+k by omega,show a+k+p.sz+2=a+p.sz+2+k by omega,<-Pc.mv k p h.1 (a+1),<-ih];simp[mvL,mvI];omega
end
theorem lone_lay (l:PcL) (a:Nat):(lone l).lay a=l.layW a (a+l.szW):=by
 match l with
 | .nil=>rfl
 | .cons p .nil=>rfl
 | .cons p (.cons q l)=>rfl
theorem more_end {w:World} {R n d e g:Nat} {s:ByteArray} {A:Option Addr} {code:List In} (h:RfW w R s n d e g A code) (hs:(s.size:Int)<=4096) (c:Nat) (hn:¬n<s.size) :
  Calls Tryz.prog 95 #[.pointer (some ⟨R,0,none⟩), .int .u8 c] w λx w'=>x= .returned (.bool false)/\Gr w w':=by
 obtain ⟨cc,h⟩:=h;obtain ⟨c0,c1⟩:=And.intro h.c0 h.c1;have hz:=h.lt;clear h;have hn1:decide (n<s.size)=false:=by simp;omega
 clear hn;go_enter Tryz.func95,Tryz.ntmps95;go_upto_region 1 with (fail)
 refine region_R (by kernel_rfl) (by kernel_rfl) ?_;(iterate 3 refine rv ?_);refine rv ?_ (h:=λW hW=>by have q1:=bc hW hz c1;go_light;go_simp<;>rfl);(iterate 3 refine rv ?_);refine rv ?_ (h:=λW hW=>by have q0:=bc hW hz c0;go_light;go_simp<;>rfl);(iterate 3 refine rv ?_);(iterate 11 refine rs ?_);(iterate 2 refine rv ?_);refine r_nil ?_;intro w1 hw1;go_wp2;go_ret;exact ⟨rfl,hw1⟩
theorem more_yes {w:World} {R n d e g:Nat} {s:ByteArray} {A:Option Addr} {code:List In} (h:RfW w R s n d e g A code) (hs:(s.size:Int)<=4096) (c:Nat) (hn:n<s.size) (hc:s[n].toNat=c) :
  Calls Tryz.prog 95 #[.pointer (some ⟨R,0,none⟩), .int .u8 c] w λx w'=>x= .returned (.bool true)/\Gr w w':=by
 obtain ⟨cc,h⟩:=h;obtain ⟨c0,c1⟩:=And.intro h.c0 h.c1;have hz:=h.lt;clear h;have hn1:decide (n<s.size)=true:=by simp;omega
 have hn2:(n:Int)<(s.size:Int):=by omega
 subst hc;go_enter Tryz.func95,Tryz.ntmps95;go_upto_region 1 with (fail)
 refine region_R (by kernel_rfl) (by kernel_rfl) ?_;(iterate 3 refine rv ?_);refine rv ?_ (h:=λW hW=>by have q1:=bc hW hz c1;go_light;go_simp<;>rfl);(iterate 3 refine rv ?_);refine rv ?_ (h:=λW hW=>by have q0:=bc hW hz c0;go_light;go_simp<;>rfl);(iterate 6 refine rv ?_);refine rv ?_ (h:=λW hW=>by have q0:=bc hW hz c0;go_light;go_simp<;>rfl);(iterate 3 refine rv ?_);refine rv ?_ (h:=λW hW=>by have q1:=bc hW hz c1;go_light;go_simp<;>rfl);(iterate 5 refine rv ?_);refine r_nil ?_;intro w1 hw1;go_wp2;go_ret;exact ⟨rfl,hw1⟩
theorem more_no {w:World} {R n d e g:Nat} {s:ByteArray} {A:Option Addr} {code:List In} (h:RfW w R s n d e g A code) (hs:(s.size:Int)<=4096) (c:Nat) (hn:n<s.size) (hc:s[n].toNat≠c) :
  Calls Tryz.prog 95 #[.pointer (some ⟨R,0,none⟩), .int .u8 c] w λx w'=>x= .returned (.bool false)/\Gr w w':=by
 obtain ⟨cc,h⟩:=h;obtain ⟨c0,c1⟩:=And.intro h.c0 h.c1;have hz:=h.lt;clear h;have hn1:decide (n<s.size)=true:=by simp;omega
 have hn2:(n:Int)<(s.size:Int):=by omega
 have hq:((s[n].toNat:Int)==(c:Int))=false:=beq_eq_false_iff_ne.2 (by omega);clear hc;go_enter Tryz.func95,Tryz.ntmps95;go_upto_region 1 with (fail)
 refine region_R (by kernel_rfl) (by kernel_rfl) ?_;(iterate 3 refine rv ?_);refine rv ?_ (h:=λW hW=>by have q1:=bc hW hz c1;go_light;go_simp<;>rfl);(iterate 3 refine rv ?_);refine rv ?_ (h:=λW hW=>by have q0:=bc hW hz c0;go_light;go_simp<;>rfl);(iterate 6 refine rv ?_);refine rv ?_ (h:=λW hW=>by have q0:=bc hW hz c0;go_light;go_simp<;>rfl);(iterate 3 refine rv ?_);refine rv ?_ (h:=λW hW=>by have q1:=bc hW hz c1;go_light;go_simp<;>rfl);(iterate 5 refine rv ?_);refine r_nil ?_;intro w1 hw1;go_wp2;go_ret;exact ⟨rfl,hw1⟩
theorem more_any {w:World} {R n d e g:Nat} {s:ByteArray} {A:Option Addr} {code:List In} (h:RfW w R s n d e g A code) (hs:(s.size:Int)<=4096) (c:Nat) :
  Calls Tryz.prog 95 #[.pointer (some ⟨R,0,none⟩), .int .u8 c] w λx w'=>x= .returned (.bool (headIs c (s.data.toList.drop n)))/\Gr w w':=by
 by_cases hn:n<s.size
 ·have hl:n<s.data.toList.length:=by simpa using hn
  have e:headIs c (s.data.toList.drop n)=(s[n].toNat==c):=by rw[List.drop_eq_getElem_cons hl];rfl
  rw[e];by_cases hc:s[n].toNat=c
  ·rw[beq_iff_eq.2 hc];exact more_yes h hs c hn hc
  ·rw[beq_eq_false_iff_ne.2 hc];exact more_no h hs c hn hc
 ·have e:s.data.toList.drop n=[]:=List.drop_eq_nil_of_le (by simp;omega);rw[e];exact more_end h hs c hn
theorem bad_new {w:World} {R n d e g:Nat} {s:ByteArray} {A:Option Addr} {code:List In} (h:RfW w R s n d e g A code) (e2:Nat) (he:e=0):Calls Tryz.prog 64 #[.pointer (some ⟨R,0,none⟩), .int .i64 e2] w λx w'=>x= .returned (.tuple #[])/\w'=w.setCell ⟨R,3,none⟩ (.int .i64 e2):=by
 subst he;obtain ⟨cc,h⟩:=h;obtain ⟨c3,f3⟩:=And.intro h.c3 h.f3;clear h;go_enter Tryz.func64,Tryz.ntmps64;go_wp2;go_end0;exact ⟨rfl,rfl⟩
theorem info_arr:(Tryz.prog.info? 215).map (λi=>(i.zero,i.size))=some (some (.agg (bsA noB)),256):=by kernel_rfl
def SetQ (w:World) (g:Nat) (f:Bs):Prop:=w.heap[g]?=some (.cells (bsA f) 215 (0,0))
theorem SetQ.cell {w:World} {g:Nat} {f:Bs} (h:SetQ w g f) {i:Nat} (hi:i<256):w.cell? ⟨g,i,none⟩=some (.bool (f i)):=
 (cell_of_row w g i _ _ _ h).trans (bsA_at f hi)
theorem SetQ.free {w:World} {g:Nat} {f:Bs} (h:SetQ w g f) (i:Nat):w.frozen? ⟨g,i,none⟩=false:=frozen_of_row w g i _ _ h
theorem SetQ.set {w:World} {g:Nat} {f:Bs} (h:SetQ w g f) (i:Nat) (b:Bool):SetQ (w.setCell ⟨g,i,none⟩ (.bool b)) g (λk=>bif k==i then b else f k):=
 (heap_setCell_same w g i _ _ (.bool b) h).trans (by rw[bsA_set])
theorem SetQ.lt {w:World} {g:Nat} {f:Bs} (h:SetQ w g f):g<w.heap.size:=(Array.getElem?_eq_some_iff.1 h).1
theorem SetQ.eq {w:World} {g:Nat} {f h:Bs} (k:SetQ w g f) (e:∀i,i<256->f i=h i):SetQ w g h:=by unfold SetQ;rw[<-bsA_eq e];exact k
theorem SetQ.gr {w w':World} {g:Nat} {f:Bs} (h:SetQ w g f) (x:Gr w w'):SetQ w' g f:=(Below.block x g h.lt).trans h
theorem SetQ.gx {w w':World} {g R:Nat} {f:Bs} (h:SetQ w g f) (x:GX R w w') (hn:g≠R):SetQ w' g f:=(x.block g h.lt hn).trans h
theorem SetQ.other {w:World} {g:Nat} {f:Bs} (h:SetQ w g f) {p:Addr} (hn:g≠p.block) (u:Value):SetQ (w.setCell p u) g f:=(heap_setCell_other w p g u hn).trans h
theorem SetQ.new (w:World) (f:Bs):SetQ (w.alloc (.cells (bsA f) 215)) w.heap.size f:=heap_alloc_new w _
theorem und_arr:Tryz.prog.underlying 215=some (.array 256 4):=by kernel_rfl
theorem size_arr:(Tryz.prog.info? 215).map (·.size)=some 256:=(zero_of_info info_arr).2
theorem size_bsQ (f:Bs):(Tryz.prog.info? 215).map (·.size)=some (bsA f).size:=by rw[bsA_size];exact size_arr
theorem SetQ.row {w:World} {g:Nat} {f h:Bs} (k:SetQ w g h):SetQ (w.setRow g (bsA f)) g f:=setRow_heap w g (bsA h) (bsA f) _ _ k
theorem res_arr2 (fn:Func) (p q:Tmp) (h:fn.results= #[.cell p 215, .tmp q]) (tmps:Array Value) (w:World) (g:Nat) (f:Bs) (b:Value) (hp:tmps.getD p undef= .pointer (some ⟨g,0,none⟩)) (hq:tmps.getD q undef=b) (hs:SetQ w g f) :
  (results fn tmps).run Tryz.prog w= .ok (.tuple #[.agg (bsA f),b]) w:=by
 have hp':tmps[p]?.getD undef= .pointer (some ⟨g,0,none⟩):=by simpa using hp
 have hq':tmps[q]?.getD undef=b:=by simpa using hq
 simp[results,h,hp',hq',asAddr,run_loadVar_row w g _ 215 (bsA f) (0,0) _ hs und_arr rfl (size_bsQ _)]
theorem aln_iff (b:Nat):alnB b=true↔(97<=b/\b<=122)\/(65<=b/\b<=90)\/(48<=b/\b<=57):=by
 simp only[alnB,Bool.or_eq_true,Bool.and_eq_true,Nat.ble_eq]
theorem digB_iff (b:Nat):digB b=true↔48<=b/\b<=57:=by
 simp only[digB,runB,Bool.and_eq_true,Nat.ble_eq]
theorem wordB_iff (b:Nat):wordB b=true↔(97<=b/\b<=122)\/(65<=b/\b<=90)\/(48<=b/\b<=57)\/b=95:=by
 simp only[wordB,orB,digB,runB,Bool.or_eq_true,Bool.and_eq_true,Nat.ble_eq];omega
theorem spB_iff (b:Nat):spB b=true↔(9<=b/\b<=13)\/b=32:=by
 simp only[spB,orB,runB,Bool.or_eq_true,Bool.and_eq_true,Nat.ble_eq];omega
theorem notB_t {f:Bs} {k:Nat} (h:f k=false):notB f k=true:=by simp[notB,h]
theorem notB_f {f:Bs} {k:Nat} (h:f k=true):notB f k=false:=by simp[notB,h]
theorem word_any (x:Nat) (hx:x<256) (w:World):Calls Tryz.prog 171 #[.int .u8 x] w λe w'=>e= .returned (.bool (alnB x))/\w=w':=by
 have hcase:x<=47\/(48<=x/\x<=57)\/(58<=x/\x<=64)\/(65<=x/\x<=90)\/(91<=x/\x<=96)\/(97<=x/\x<=122)\/123<=x:=by omega
 rcases hcase with hr|⟨hr,hr2⟩|⟨hr,hr2⟩|⟨hr,hr2⟩|⟨hr,hr2⟩|⟨hr,hr2⟩|hr
 ·have g0:¬(97:Int)<=(x:Int):=by omega
  have g1:¬(65:Int)<=(x:Int):=by omega
  have g2:¬(48:Int)<=(x:Int):=by omega
  have g3:(x:Int)<=122:=by omega
  have g4:(x:Int)<=90:=by omega
  have g5:(x:Int)<=57:=by omega
  have hal:alnB x=false:=by rw[Bool.eq_false_iff,ne_eq,aln_iff];omega
  rw[hal];clear hal;go_enter Tryz.func171,Tryz.ntmps171;go_wp2;go_ret;exact ⟨rfl,rfl⟩
 ·have g0:¬(97:Int)<=(x:Int):=by omega
  have g1:¬(65:Int)<=(x:Int):=by omega
  have g2:(48:Int)<=(x:Int):=by omega
  have g3:(x:Int)<=122:=by omega
  have g4:(x:Int)<=90:=by omega
  have g5:(x:Int)<=57:=by omega
  have hal:alnB x=true:=by rw[aln_iff];omega
  rw[hal];clear hal;go_enter Tryz.func171,Tryz.ntmps171;go_wp2;go_ret;exact ⟨rfl,rfl⟩
 ·have g0:¬(97:Int)<=(x:Int):=by omega
  have g1:¬(65:Int)<=(x:Int):=by omega
  have g2:(48:Int)<=(x:Int):=by omega
  have g3:(x:Int)<=122:=by omega
  have g4:(x:Int)<=90:=by omega
  have g5:¬(x:Int)<=57:=by omega
  have hal:alnB x=false:=by rw[Bool.eq_false_iff,ne_eq,aln_iff];omega
  rw[hal];clear hal;go_enter Tryz.func171,Tryz.ntmps171;go_wp2;go_ret;exact ⟨rfl,rfl⟩
 ·have g0:¬(97:Int)<=(x:Int):=by omega
  have g1:(65:Int)<=(x:Int):=by omega
  have g2:(48:Int)<=(x:Int):=by omega
  have g3:(x:Int)<=122:=by omega
  have g4:(x:Int)<=90:=by omega
  have g5:¬(x:Int)<=57:=by omega
  have hal:alnB x=true:=by rw[aln_iff];omega
  rw[hal];clear hal;go_enter Tryz.func171,Tryz.ntmps171;go_wp2;go_ret;exact ⟨rfl,rfl⟩
 ·have g0:¬(97:Int)<=(x:Int):=by omega
  have g1:(65:Int)<=(x:Int):=by omega
  have g2:(48:Int)<=(x:Int):=by omega
  have g3:(x:Int)<=122:=by omega
  have g4:¬(x:Int)<=90:=by omega
  have g5:¬(x:Int)<=57:=by omega
  have hal:alnB x=false:=by rw[Bool.eq_false_iff,ne_eq,aln_iff];omega
  rw[hal];clear hal;go_enter Tryz.func171,Tryz.ntmps171;go_wp2;go_ret;exact ⟨rfl,rfl⟩
 ·have g0:(97:Int)<=(x:Int):=by omega
  have g1:(65:Int)<=(x:Int):=by omega
  have g2:(48:Int)<=(x:Int):=by omega
  have g3:(x:Int)<=122:=by omega
  have g4:¬(x:Int)<=90:=by omega
  have g5:¬(x:Int)<=57:=by omega
  have hal:alnB x=true:=by rw[aln_iff];omega
  rw[hal];clear hal;go_enter Tryz.func171,Tryz.ntmps171;go_wp2;go_ret;exact ⟨rfl,rfl⟩
 ·have g0:(97:Int)<=(x:Int):=by omega
  have g1:(65:Int)<=(x:Int):=by omega
  have g2:(48:Int)<=(x:Int):=by omega
  have g3:¬(x:Int)<=122:=by omega
  have g4:¬(x:Int)<=90:=by omega
  have g5:¬(x:Int)<=57:=by omega
  have hal:alnB x=false:=by rw[Bool.eq_false_iff,ne_eq,aln_iff];omega
  rw[hal];clear hal;go_enter Tryz.func171,Tryz.ntmps171;go_wp2;go_ret;exact ⟨rfl,rfl⟩
def spcL:List UInt8:=[92,94,36,46,124,63,42,43,40,41,91]
def spcB (c:Nat):Bool:=spcL.any λb=>b.toNat==c
theorem special_any (c:Nat) (hc:c<256) (w:World):Calls Tryz.prog 161 #[.int .u8 c] w λe w'=>e= .returned (.bool (spcB c))/\w=w':=by
 obtain ⟨Rv,hR⟩:∃Rv,Rv=spcB c:=⟨_,rfl⟩
 rw[<-hR];have HR:=Lib.hid hR;clear hR;go_enter Tryz.func161,Tryz.ntmps161;go_upto_region 2 with (fail)
 obtain ⟨S,hS⟩:∃S:ByteArray,S=⟨#[92,94,36,46,124,63,42,43,40,41,91]⟩:=⟨_,rfl⟩
 rw[<-hS];have hz:S.size<=11:=by rw[hS];decide
 have hz2:11<=S.size:=by rw[hS];decide
 have HS:=Lib.hid hS;clear hS;go_wp2
 go_loop [4] (λi=>∃k:Nat,k<=11/\i= .int .i64 k/\(spcL.take k).all (λb=> !(b.toNat==c))=true) (λi=>12-(intOf i).toNat)
 case atStart=>exact ⟨0,by omega,rfl,rfl⟩
 case round=>
  obtain ⟨k,hk,rfl,hall⟩:=hrel;have HA:=Lib.hid hall;clear hall;by_cases hlt:k<11
  ·have hkS:k<S.size:=by omega
   have hkI:(k:Int)<(S.size:Int):=by omega
   have hel:spcL[k]'hlt=S[k]:=by have:=HS.out;subst this;rfl
   have Hel:=Lib.hid hel;clear hel;by_cases hq:S[k].toNat=c
   ·have hq1:((S[k].toNat:Int)==(c:Int))=true:=by simp[hq]
    have Hq:=Lib.hid hq;clear hq;go_wp2;go_ret;have:spcB c=true:=by
     unfold spcB;rw[List.any_eq_true];exact ⟨spcL[k]'hlt,List.getElem_mem _,by rw[Hel.out];simpa using Hq.out⟩
    rw[HR.out,this];exact ⟨rfl,rfl⟩
   ·have hq1:((S[k].toNat:Int)==(c:Int))=false:=beq_eq_false_iff_ne.2 (by omega);have Hq:=Lib.hid hq;clear hq;go_wp2;go_round;case rel=>
     refine ⟨k+1,by omega,by go_num,?_⟩;rw[List.take_succ_eq_append_getElem hlt,List.all_append,HA.out,Hel.out];simpa using Hq.out
    case measure=>simp[intOf];omega
  ·have hge:¬(k:Int)<(S.size:Int):=by omega
   go_wp2;go_ret;have:spcB c=false:=by
    have h2:=HA.out;rw[List.take_of_length_le (by show 11<=k;omega)] at h2;unfold spcB;rw[List.any_eq_false];intro b hb;have:=List.all_eq_true.1 h2 b hb;simpa using this
   rw[HR.out,this];exact ⟨rfl,rfl⟩
theorem six_100 (w:World):Calls Tryz.prog 170 #[.int .u8 100] w λe w'=>e= .returned (.tuple #[.agg (bsA digB), .bool true])/\Gr w w':=by
 obtain ⟨hz,hsz⟩:=zero_of_info info_arr;have g0:Gr w ((w.alloc (Obj.cells (bsA noB) 215)).alloc (Obj.cells (bsA noB) 215)):=gq;have s0:SetQ ((w.alloc (Obj.cells (bsA noB) 215)).alloc (Obj.cells (bsA noB) 215)) w.heap.size noB:=(SetQ.new w noB).gr (Gr.alloc (Gr.refl _) _);have s1:SetQ ((w.alloc (Obj.cells (bsA noB) 215)).alloc (Obj.cells (bsA noB) 215)) (w.heap.size+1) noB:=by
  have:=SetQ.new (w.alloc (Obj.cells (bsA noB) 215)) noB;simpa using this
 go_enter Tryz.func170,Tryz.ntmps170;go_wp2;generalize ((w.alloc (Obj.cells (bsA noB) 215)).alloc (Obj.cells (bsA noB) 215))=w0 at g0 s0 s1 ⊢;clear hz hsz
 go_loopw [5] (λi wr=>∃k:Nat,k<=256/\i= .int .i64 k/\Gr w wr/\SetQ wr w.heap.size noB/\SetQ wr (w.heap.size+1) (λj=>bif decide (j<k) then digB j else false)) (λi _=>256-(intOf i).toNat)
 case atStart=>exact ⟨0,by omega,rfl,g0,s0,s1.eq λi _=>by simp[noB]⟩
 case round=>
  clear g0 s0 s1;obtain ⟨k,hk,rfl,hgr,hs,ht⟩:=hrel;by_cases hlt:k<256
  ·have h3:(k:Int)<256:=by omega
   have hcell:=ht.cell hlt;rw[show (bif decide (k<k) then digB k else false)=false by simp] at hcell;have hf:=ht.free k;have hrel2:∀v:Bool,digB k=v->SetQ (wr.setCell ⟨w.heap.size+1,k,none⟩ (.bool v)) (w.heap.size+1) (λj=>bif decide (j<k+1) then digB j else false):=λv hv=>(ht.set k v).eq λi _=>by
    by_cases hi:i=k
    ·subst hi;simp[hv]
    ·have e1:(i==k)=false:=by simpa using hi
     have e2:decide (i<k+1)=decide (i<k):=by rw[decide_eq_decide];omega
     simp only[e1,cond_false,e2]
   have Hrel2:=Lib.hid hrel2;have Hs:=Lib.hid hs;have Ht:=Lib.hid ht;have Hgr:=Lib.hid hgr;clear hrel2 hs ht hgr;have hcase:(0<=k/\k<=47)\/(48<=k/\k<=57)\/(58<=k/\k<=255):=by omega
   rcases hcase with ⟨hr,hr2⟩|⟨hr,hr2⟩|⟨hr,hr2⟩
   ·have g0:¬(48:Int)<=(k:Int):=by omega
    have g1:(k:Int)<=57:=by omega
    go_wp2;go_roundw;case rel=>exact ⟨k+1,by omega,by go_num,Gr.setCell Hgr.out (p:=⟨w.heap.size+1,k,none⟩) (by simp) _,Hs.out.other (p:=⟨w.heap.size+1,k,none⟩) (by simp) _,Hrel2.out false (by exact (by rw[Bool.eq_false_iff,ne_eq,digB_iff];omega))⟩
    case measure=>simp[intOf];omega
   ·have g0:(48:Int)<=(k:Int):=by omega
    have g1:(k:Int)<=57:=by omega
    go_wp2;go_roundw;case rel=>exact ⟨k+1,by omega,by go_num,Gr.setCell Hgr.out (p:=⟨w.heap.size+1,k,none⟩) (by simp) _,Hs.out.other (p:=⟨w.heap.size+1,k,none⟩) (by simp) _,Hrel2.out true (by exact ((digB_iff k).2 (by omega)))⟩
    case measure=>simp[intOf];omega
   ·have g0:(48:Int)<=(k:Int):=by omega
    have g1:¬(k:Int)<=57:=by omega
    go_wp2;go_roundw;case rel=>exact ⟨k+1,by omega,by go_num,Gr.setCell Hgr.out (p:=⟨w.heap.size+1,k,none⟩) (by simp) _,Hs.out.other (p:=⟨w.heap.size+1,k,none⟩) (by simp) _,Hrel2.out false (by exact (by rw[Bool.eq_false_iff,ne_eq,digB_iff];omega))⟩
    case measure=>simp[intOf];omega
  ·have hk':k=256:=by omega
   subst hk';have ht':SetQ wr (w.heap.size+1) digB:=ht.eq λi hi=>by simp[hi]
   clear ht;go_wp2_with (first
    | (refine wpList_load_row rfl 215 (.tmp 4) rfl (w.heap.size+1) rfl _ (bsA digB) (0,0) _ ht' und_arr rfl (size_bsQ _) ?_)
    | (refine wpList_store_row rfl 215 (.tmp 2) (.tmp 53) rfl w.heap.size (bsA digB) rfl rfl _ _ hs (size_bsQ _) (by simp only[bsA_size]) (bsA_one _) ?_))
   exact bodyPost_ret (v:= .tuple #[.agg (bsA digB), .bool true]) (res_arr2 _ 2 3 (by kernel_rfl) _ _ w.heap.size _ _ rfl rfl (SetQ.row hs)) rfl ⟨rfl,Gr.setRow hgr (Nat.le_refl _) _⟩
theorem six_68 (w:World):Calls Tryz.prog 170 #[.int .u8 68] w λe w'=>e= .returned (.tuple #[.agg (bsA (notB digB)), .bool true])/\Gr w w':=by
 obtain ⟨hz,hsz⟩:=zero_of_info info_arr;have g0:Gr w ((w.alloc (Obj.cells (bsA noB) 215)).alloc (Obj.cells (bsA noB) 215)):=gq;have s0:SetQ ((w.alloc (Obj.cells (bsA noB) 215)).alloc (Obj.cells (bsA noB) 215)) w.heap.size noB:=(SetQ.new w noB).gr (Gr.alloc (Gr.refl _) _);have s1:SetQ ((w.alloc (Obj.cells (bsA noB) 215)).alloc (Obj.cells (bsA noB) 215)) (w.heap.size+1) noB:=by
  have:=SetQ.new (w.alloc (Obj.cells (bsA noB) 215)) noB;simpa using this
 go_enter Tryz.func170,Tryz.ntmps170;go_wp2;generalize ((w.alloc (Obj.cells (bsA noB) 215)).alloc (Obj.cells (bsA noB) 215))=w0 at g0 s0 s1 ⊢;clear hz hsz
 go_loopw [5] (λi wr=>∃k:Nat,k<=256/\i= .int .i64 k/\Gr w wr/\SetQ wr w.heap.size noB/\SetQ wr (w.heap.size+1) (λj=>bif decide (j<k) then (notB digB) j else false)) (λi _=>256-(intOf i).toNat)
 case atStart=>exact ⟨0,by omega,rfl,g0,s0,s1.eq λi _=>by simp[noB]⟩
 case round=>
  clear g0 s0 s1;obtain ⟨k,hk,rfl,hgr,hs,ht⟩:=hrel;by_cases hlt:k<256
  ·have h3:(k:Int)<256:=by omega
   have hcell:=ht.cell hlt;rw[show (bif decide (k<k) then (notB digB) k else false)=false by simp] at hcell;have hf:=ht.free k;have hrel2:∀v:Bool,(notB digB) k=v->SetQ (wr.setCell ⟨w.heap.size+1,k,none⟩ (.bool v)) (w.heap.size+1) (λj=>bif decide (j<k+1) then (notB digB) j else false):=λv hv=>(ht.set k v).eq λi _=>by
    by_cases hi:i=k
    ·subst hi;simp[hv]
    ·have e1:(i==k)=false:=by simpa using hi
     have e2:decide (i<k+1)=decide (i<k):=by rw[decide_eq_decide];omega
     simp only[e1,cond_false,e2]
   have Hrel2:=Lib.hid hrel2;have Hs:=Lib.hid hs;have Ht:=Lib.hid ht;have Hgr:=Lib.hid hgr;clear hrel2 hs ht hgr;have hcase:(0<=k/\k<=47)\/(48<=k/\k<=57)\/(58<=k/\k<=255):=by omega
   rcases hcase with ⟨hr,hr2⟩|⟨hr,hr2⟩|⟨hr,hr2⟩
   ·have g0:¬(48:Int)<=(k:Int):=by omega
    have g1:(k:Int)<=57:=by omega
    go_wp2;go_roundw;case rel=>exact ⟨k+1,by omega,by go_num,Gr.setCell Hgr.out (p:=⟨w.heap.size+1,k,none⟩) (by simp) _,Hs.out.other (p:=⟨w.heap.size+1,k,none⟩) (by simp) _,Hrel2.out true (by exact notB_t (by rw[Bool.eq_false_iff,ne_eq,digB_iff];omega))⟩
    case measure=>simp[intOf];omega
   ·have g0:(48:Int)<=(k:Int):=by omega
    have g1:(k:Int)<=57:=by omega
    go_wp2;go_roundw;case rel=>exact ⟨k+1,by omega,by go_num,Gr.setCell Hgr.out (p:=⟨w.heap.size+1,k,none⟩) (by simp) _,Hs.out.other (p:=⟨w.heap.size+1,k,none⟩) (by simp) _,Hrel2.out false (by exact notB_f ((digB_iff k).2 (by omega)))⟩
    case measure=>simp[intOf];omega
   ·have g0:(48:Int)<=(k:Int):=by omega
    have g1:¬(k:Int)<=57:=by omega
    go_wp2;go_roundw;case rel=>exact ⟨k+1,by omega,by go_num,Gr.setCell Hgr.out (p:=⟨w.heap.size+1,k,none⟩) (by simp) _,Hs.out.other (p:=⟨w.heap.size+1,k,none⟩) (by simp) _,Hrel2.out true (by exact notB_t (by rw[Bool.eq_false_iff,ne_eq,digB_iff];omega))⟩
    case measure=>simp[intOf];omega
  ·have hk':k=256:=by omega
   subst hk';have ht':SetQ wr (w.heap.size+1) (notB digB):=ht.eq λi hi=>by simp[hi]
   clear ht;go_wp2_with (first
    | (refine wpList_load_row rfl 215 (.tmp 4) rfl (w.heap.size+1) rfl _ (bsA (notB digB)) (0,0) _ ht' und_arr rfl (size_bsQ _) ?_)
    | (refine wpList_store_row rfl 215 (.tmp 2) (.tmp 53) rfl w.heap.size (bsA (notB digB)) rfl rfl _ _ hs (size_bsQ _) (by simp only[bsA_size]) (bsA_one _) ?_))
   exact bodyPost_ret (v:= .tuple #[.agg (bsA (notB digB)), .bool true]) (res_arr2 _ 2 3 (by kernel_rfl) _ _ w.heap.size _ _ rfl rfl (SetQ.row hs)) rfl ⟨rfl,Gr.setRow hgr (Nat.le_refl _) _⟩
theorem six_119 (w:World):Calls Tryz.prog 170 #[.int .u8 119] w λe w'=>e= .returned (.tuple #[.agg (bsA wordB), .bool true])/\Gr w w':=by
 obtain ⟨hz,hsz⟩:=zero_of_info info_arr;have g0:Gr w ((w.alloc (Obj.cells (bsA noB) 215)).alloc (Obj.cells (bsA noB) 215)):=gq;have s0:SetQ ((w.alloc (Obj.cells (bsA noB) 215)).alloc (Obj.cells (bsA noB) 215)) w.heap.size noB:=(SetQ.new w noB).gr (Gr.alloc (Gr.refl _) _);have s1:SetQ ((w.alloc (Obj.cells (bsA noB) 215)).alloc (Obj.cells (bsA noB) 215)) (w.heap.size+1) noB:=by
  have:=SetQ.new (w.alloc (Obj.cells (bsA noB) 215)) noB;simpa using this
 go_enter Tryz.func170,Tryz.ntmps170;go_wp2;generalize ((w.alloc (Obj.cells (bsA noB) 215)).alloc (Obj.cells (bsA noB) 215))=w0 at g0 s0 s1 ⊢;clear hz hsz
 go_loopw [5] (λi wr=>∃k:Nat,k<=256/\i= .int .i64 k/\Gr w wr/\SetQ wr w.heap.size noB/\SetQ wr (w.heap.size+1) (λj=>bif decide (j<k) then wordB j else false)) (λi _=>256-(intOf i).toNat)
 case atStart=>exact ⟨0,by omega,rfl,g0,s0,s1.eq λi _=>by simp[noB]⟩
 case round=>
  clear g0 s0 s1;obtain ⟨k,hk,rfl,hgr,hs,ht⟩:=hrel;by_cases hlt:k<256
  ·have h3:(k:Int)<256:=by omega
   have hcell:=ht.cell hlt;rw[show (bif decide (k<k) then wordB k else false)=false by simp] at hcell;have hf:=ht.free k;have hrel2:∀v:Bool,wordB k=v->SetQ (wr.setCell ⟨w.heap.size+1,k,none⟩ (.bool v)) (w.heap.size+1) (λj=>bif decide (j<k+1) then wordB j else false):=λv hv=>(ht.set k v).eq λi _=>by
    by_cases hi:i=k
    ·subst hi;simp[hv]
    ·have e1:(i==k)=false:=by simpa using hi
     have e2:decide (i<k+1)=decide (i<k):=by rw[decide_eq_decide];omega
     simp only[e1,cond_false,e2]
   have Hrel2:=Lib.hid hrel2;have Hs:=Lib.hid hs;have Ht:=Lib.hid ht;have Hgr:=Lib.hid hgr;clear hrel2 hs ht hgr;cases hal:alnB k with
   | true=>
    have HW:∀W,Calls Tryz.prog 171 #[.int .u8 k] W λe w'=>e= .returned (.bool true)/\W=w':=λW=>by have hw:=word_any k hlt W;rw[hal] at hw;exact hw
    have HW2:=Lib.hid HW;clear HW;have Hal:=Lib.hid hal;clear hal;go_wp2_with (go_at_call 171;refine (HW2.out _).mono ?_;rintro e w5 ⟨rfl,rfl⟩);go_roundw;case rel=>exact ⟨k+1,by omega,by go_num,Gr.setCell Hgr.out (p:=⟨w.heap.size+1,k,none⟩) (by simp) _,Hs.out.other (p:=⟨w.heap.size+1,k,none⟩) (by simp) _,Hrel2.out true (by have hx:=(aln_iff k).1 Hal.out;exact ((wordB_iff k).2 (by omega)))⟩
    case measure=>simp[intOf];omega
   | false=>
    have HW:∀W,Calls Tryz.prog 171 #[.int .u8 k] W λe w'=>e= .returned (.bool false)/\W=w':=λW=>by have hw:=word_any k hlt W;rw[hal] at hw;exact hw
    have HW2:=Lib.hid HW;clear HW;have hal2:¬((97<=k/\k<=122)\/(65<=k/\k<=90)\/(48<=k/\k<=57)):=by rw[<-aln_iff,hal];simp
    have Hal:=Lib.hid hal2;clear hal hal2;by_cases h95:k=95
    ·have g9:((k:Int)==95)=true:=by simp;omega
     have H95:=Lib.hid h95;clear h95;go_wp2_with (go_at_call 171;refine (HW2.out _).mono ?_;rintro e w5 ⟨rfl,rfl⟩);go_roundw;case rel=>exact ⟨k+1,by omega,by go_num,Gr.setCell Hgr.out (p:=⟨w.heap.size+1,k,none⟩) (by simp) _,Hs.out.other (p:=⟨w.heap.size+1,k,none⟩) (by simp) _,Hrel2.out true (by have hx:=Hal.out;have h95:=H95.out;exact ((wordB_iff k).2 (by omega)))⟩
     case measure=>simp[intOf];omega
    ·have g9:((k:Int)==95)=false:=by simp;omega
     have H95:=Lib.hid h95;clear h95;go_wp2_with (go_at_call 171;refine (HW2.out _).mono ?_;rintro e w5 ⟨rfl,rfl⟩);go_roundw;case rel=>exact ⟨k+1,by omega,by go_num,Gr.setCell Hgr.out (p:=⟨w.heap.size+1,k,none⟩) (by simp) _,Hs.out.other (p:=⟨w.heap.size+1,k,none⟩) (by simp) _,Hrel2.out false (by have hx:=Hal.out;have h95:=H95.out;exact (by rw[Bool.eq_false_iff,ne_eq,wordB_iff];omega))⟩
     case measure=>simp[intOf];omega
  ·have hk':k=256:=by omega
   subst hk';have ht':SetQ wr (w.heap.size+1) wordB:=ht.eq λi hi=>by simp[hi]
   clear ht;go_wp2_with (first
    | (refine wpList_load_row rfl 215 (.tmp 4) rfl (w.heap.size+1) rfl _ (bsA wordB) (0,0) _ ht' und_arr rfl (size_bsQ _) ?_)
    | (refine wpList_store_row rfl 215 (.tmp 2) (.tmp 53) rfl w.heap.size (bsA wordB) rfl rfl _ _ hs (size_bsQ _) (by simp only[bsA_size]) (bsA_one _) ?_))
   exact bodyPost_ret (v:= .tuple #[.agg (bsA wordB), .bool true]) (res_arr2 _ 2 3 (by kernel_rfl) _ _ w.heap.size _ _ rfl rfl (SetQ.row hs)) rfl ⟨rfl,Gr.setRow hgr (Nat.le_refl _) _⟩
theorem six_87 (w:World):Calls Tryz.prog 170 #[.int .u8 87] w λe w'=>e= .returned (.tuple #[.agg (bsA (notB wordB)), .bool true])/\Gr w w':=by
 obtain ⟨hz,hsz⟩:=zero_of_info info_arr;have g0:Gr w ((w.alloc (Obj.cells (bsA noB) 215)).alloc (Obj.cells (bsA noB) 215)):=gq;have s0:SetQ ((w.alloc (Obj.cells (bsA noB) 215)).alloc (Obj.cells (bsA noB) 215)) w.heap.size noB:=(SetQ.new w noB).gr (Gr.alloc (Gr.refl _) _);have s1:SetQ ((w.alloc (Obj.cells (bsA noB) 215)).alloc (Obj.cells (bsA noB) 215)) (w.heap.size+1) noB:=by
  have:=SetQ.new (w.alloc (Obj.cells (bsA noB) 215)) noB;simpa using this
 go_enter Tryz.func170,Tryz.ntmps170;go_wp2;generalize ((w.alloc (Obj.cells (bsA noB) 215)).alloc (Obj.cells (bsA noB) 215))=w0 at g0 s0 s1 ⊢;clear hz hsz
 go_loopw [5] (λi wr=>∃k:Nat,k<=256/\i= .int .i64 k/\Gr w wr/\SetQ wr w.heap.size noB/\SetQ wr (w.heap.size+1) (λj=>bif decide (j<k) then (notB wordB) j else false)) (λi _=>256-(intOf i).toNat)
 case atStart=>exact ⟨0,by omega,rfl,g0,s0,s1.eq λi _=>by simp[noB]⟩
 case round=>
  clear g0 s0 s1;obtain ⟨k,hk,rfl,hgr,hs,ht⟩:=hrel;by_cases hlt:k<256
  ·have h3:(k:Int)<256:=by omega
   have hcell:=ht.cell hlt;rw[show (bif decide (k<k) then (notB wordB) k else false)=false by simp] at hcell;have hf:=ht.free k;have hrel2:∀v:Bool,(notB wordB) k=v->SetQ (wr.setCell ⟨w.heap.size+1,k,none⟩ (.bool v)) (w.heap.size+1) (λj=>bif decide (j<k+1) then (notB wordB) j else false):=λv hv=>(ht.set k v).eq λi _=>by
    by_cases hi:i=k
    ·subst hi;simp[hv]
    ·have e1:(i==k)=false:=by simpa using hi
     have e2:decide (i<k+1)=decide (i<k):=by rw[decide_eq_decide];omega
     simp only[e1,cond_false,e2]
   have Hrel2:=Lib.hid hrel2;have Hs:=Lib.hid hs;have Ht:=Lib.hid ht;have Hgr:=Lib.hid hgr;clear hrel2 hs ht hgr;cases hal:alnB k with
   | true=>
    have HW:∀W,Calls Tryz.prog 171 #[.int .u8 k] W λe w'=>e= .returned (.bool true)/\W=w':=λW=>by have hw:=word_any k hlt W;rw[hal] at hw;exact hw
    have HW2:=Lib.hid HW;clear HW;have Hal:=Lib.hid hal;clear hal;go_wp2_with (go_at_call 171;refine (HW2.out _).mono ?_;rintro e w5 ⟨rfl,rfl⟩);go_roundw;case rel=>exact ⟨k+1,by omega,by go_num,Gr.setCell Hgr.out (p:=⟨w.heap.size+1,k,none⟩) (by simp) _,Hs.out.other (p:=⟨w.heap.size+1,k,none⟩) (by simp) _,Hrel2.out false (by have hx:=(aln_iff k).1 Hal.out;exact notB_f ((wordB_iff k).2 (by omega)))⟩
    case measure=>simp[intOf];omega
   | false=>
    have HW:∀W,Calls Tryz.prog 171 #[.int .u8 k] W λe w'=>e= .returned (.bool false)/\W=w':=λW=>by have hw:=word_any k hlt W;rw[hal] at hw;exact hw
    have HW2:=Lib.hid HW;clear HW;have hal2:¬((97<=k/\k<=122)\/(65<=k/\k<=90)\/(48<=k/\k<=57)):=by rw[<-aln_iff,hal];simp
    have Hal:=Lib.hid hal2;clear hal hal2;by_cases h95:k=95
    ·have g9:((k:Int)==95)=true:=by simp;omega
     have H95:=Lib.hid h95;clear h95;go_wp2_with (go_at_call 171;refine (HW2.out _).mono ?_;rintro e w5 ⟨rfl,rfl⟩);go_roundw;case rel=>exact ⟨k+1,by omega,by go_num,Gr.setCell Hgr.out (p:=⟨w.heap.size+1,k,none⟩) (by simp) _,Hs.out.other (p:=⟨w.heap.size+1,k,none⟩) (by simp) _,Hrel2.out false (by have hx:=Hal.out;have h95:=H95.out;exact notB_f ((wordB_iff k).2 (by omega)))⟩
     case measure=>simp[intOf];omega
    ·have g9:((k:Int)==95)=false:=by simp;omega
     have H95:=Lib.hid h95;clear h95;go_wp2_with (go_at_call 171;refine (HW2.out _).mono ?_;rintro e w5 ⟨rfl,rfl⟩);go_roundw;case rel=>exact ⟨k+1,by omega,by go_num,Gr.setCell Hgr.out (p:=⟨w.heap.size+1,k,none⟩) (by simp) _,Hs.out.other (p:=⟨w.heap.size+1,k,none⟩) (by simp) _,Hrel2.out true (by have hx:=Hal.out;have h95:=H95.out;exact notB_t (by rw[Bool.eq_false_iff,ne_eq,wordB_iff];omega))⟩
     case measure=>simp[intOf];omega
  ·have hk':k=256:=by omega
   subst hk';have ht':SetQ wr (w.heap.size+1) (notB wordB):=ht.eq λi hi=>by simp[hi]
   clear ht;go_wp2_with (first
    | (refine wpList_load_row rfl 215 (.tmp 4) rfl (w.heap.size+1) rfl _ (bsA (notB wordB)) (0,0) _ ht' und_arr rfl (size_bsQ _) ?_)
    | (refine wpList_store_row rfl 215 (.tmp 2) (.tmp 53) rfl w.heap.size (bsA (notB wordB)) rfl rfl _ _ hs (size_bsQ _) (by simp only[bsA_size]) (bsA_one _) ?_))
   exact bodyPost_ret (v:= .tuple #[.agg (bsA (notB wordB)), .bool true]) (res_arr2 _ 2 3 (by kernel_rfl) _ _ w.heap.size _ _ rfl rfl (SetQ.row hs)) rfl ⟨rfl,Gr.setRow hgr (Nat.le_refl _) _⟩
theorem six_115 (w:World):Calls Tryz.prog 170 #[.int .u8 115] w λe w'=>e= .returned (.tuple #[.agg (bsA spB), .bool true])/\Gr w w':=by
 obtain ⟨hz,hsz⟩:=zero_of_info info_arr;have g0:Gr w ((w.alloc (Obj.cells (bsA noB) 215)).alloc (Obj.cells (bsA noB) 215)):=gq;have s0:SetQ ((w.alloc (Obj.cells (bsA noB) 215)).alloc (Obj.cells (bsA noB) 215)) w.heap.size noB:=(SetQ.new w noB).gr (Gr.alloc (Gr.refl _) _);have s1:SetQ ((w.alloc (Obj.cells (bsA noB) 215)).alloc (Obj.cells (bsA noB) 215)) (w.heap.size+1) noB:=by
  have:=SetQ.new (w.alloc (Obj.cells (bsA noB) 215)) noB;simpa using this
 go_enter Tryz.func170,Tryz.ntmps170;go_wp2;generalize ((w.alloc (Obj.cells (bsA noB) 215)).alloc (Obj.cells (bsA noB) 215))=w0 at g0 s0 s1 ⊢;clear hz hsz
 go_loopw [5] (λi wr=>∃k:Nat,k<=256/\i= .int .i64 k/\Gr w wr/\SetQ wr w.heap.size noB/\SetQ wr (w.heap.size+1) (λj=>bif decide (j<k) then spB j else false)) (λi _=>256-(intOf i).toNat)
 case atStart=>exact ⟨0,by omega,rfl,g0,s0,s1.eq λi _=>by simp[noB]⟩
 case round=>
  clear g0 s0 s1;obtain ⟨k,hk,rfl,hgr,hs,ht⟩:=hrel;by_cases hlt:k<256
  ·have h3:(k:Int)<256:=by omega
   have hcell:=ht.cell hlt;rw[show (bif decide (k<k) then spB k else false)=false by simp] at hcell;have hf:=ht.free k;have hrel2:∀v:Bool,spB k=v->SetQ (wr.setCell ⟨w.heap.size+1,k,none⟩ (.bool v)) (w.heap.size+1) (λj=>bif decide (j<k+1) then spB j else false):=λv hv=>(ht.set k v).eq λi _=>by
    by_cases hi:i=k
    ·subst hi;simp[hv]
    ·have e1:(i==k)=false:=by simpa using hi
     have e2:decide (i<k+1)=decide (i<k):=by rw[decide_eq_decide];omega
     simp only[e1,cond_false,e2]
   have Hrel2:=Lib.hid hrel2;have Hs:=Lib.hid hs;have Ht:=Lib.hid ht;have Hgr:=Lib.hid hgr;clear hrel2 hs ht hgr;have hcase:(0<=k/\k<=8)\/(9<=k/\k<=13)\/(14<=k/\k<=31)\/(32<=k/\k<=32)\/(33<=k/\k<=255):=by omega
   rcases hcase with ⟨hr,hr2⟩|⟨hr,hr2⟩|⟨hr,hr2⟩|⟨hr,hr2⟩|⟨hr,hr2⟩
   ·have g0:¬(9:Int)<=(k:Int):=by omega
    have g1:(k:Int)<=13:=by omega
    have g9:((k:Int)==32)=false:=by simp;omega
    go_wp2;go_roundw;case rel=>exact ⟨k+1,by omega,by go_num,Gr.setCell Hgr.out (p:=⟨w.heap.size+1,k,none⟩) (by simp) _,Hs.out.other (p:=⟨w.heap.size+1,k,none⟩) (by simp) _,Hrel2.out false (by exact (by rw[Bool.eq_false_iff,ne_eq,spB_iff];omega))⟩
    case measure=>simp[intOf];omega
   ·have g0:(9:Int)<=(k:Int):=by omega
    have g1:(k:Int)<=13:=by omega
    have g9:((k:Int)==32)=false:=by simp;omega
    go_wp2;go_roundw;case rel=>exact ⟨k+1,by omega,by go_num,Gr.setCell Hgr.out (p:=⟨w.heap.size+1,k,none⟩) (by simp) _,Hs.out.other (p:=⟨w.heap.size+1,k,none⟩) (by simp) _,Hrel2.out true (by exact ((spB_iff k).2 (by omega)))⟩
    case measure=>simp[intOf];omega
   ·have g0:(9:Int)<=(k:Int):=by omega
    have g1:¬(k:Int)<=13:=by omega
    have g9:((k:Int)==32)=false:=by simp;omega
    go_wp2;go_roundw;case rel=>exact ⟨k+1,by omega,by go_num,Gr.setCell Hgr.out (p:=⟨w.heap.size+1,k,none⟩) (by simp) _,Hs.out.other (p:=⟨w.heap.size+1,k,none⟩) (by simp) _,Hrel2.out false (by exact (by rw[Bool.eq_false_iff,ne_eq,spB_iff];omega))⟩
    case measure=>simp[intOf];omega
   ·have g0:(9:Int)<=(k:Int):=by omega
    have g1:¬(k:Int)<=13:=by omega
    have g9:((k:Int)==32)=true:=by simp;omega
    go_wp2;go_roundw;case rel=>exact ⟨k+1,by omega,by go_num,Gr.setCell Hgr.out (p:=⟨w.heap.size+1,k,none⟩) (by simp) _,Hs.out.other (p:=⟨w.heap.size+1,k,none⟩) (by simp) _,Hrel2.out true (by exact ((spB_iff k).2 (by omega)))⟩
    case measure=>simp[intOf];omega
   ·have g0:(9:Int)<=(k:Int):=by omega
    have g1:¬(k:Int)<=13:=by omega
    have g9:((k:Int)==32)=false:=by simp;omega
    go_wp2;go_roundw;case rel=>exact ⟨k+1,by omega,by go_num,Gr.setCell Hgr.out (p:=⟨w.heap.size+1,k,none⟩) (by simp) _,Hs.out.other (p:=⟨w.heap.size+1,k,none⟩) (by simp) _,Hrel2.out false (by exact (by rw[Bool.eq_false_iff,ne_eq,spB_iff];omega))⟩
    case measure=>simp[intOf];omega
  ·have hk':k=256:=by omega
   subst hk';have ht':SetQ wr (w.heap.size+1) spB:=ht.eq λi hi=>by simp[hi]
   clear ht;go_wp2_with (first
    | (refine wpList_load_row rfl 215 (.tmp 4) rfl (w.heap.size+1) rfl _ (bsA spB) (0,0) _ ht' und_arr rfl (size_bsQ _) ?_)
    | (refine wpList_store_row rfl 215 (.tmp 2) (.tmp 53) rfl w.heap.size (bsA spB) rfl rfl _ _ hs (size_bsQ _) (by simp only[bsA_size]) (bsA_one _) ?_))
   exact bodyPost_ret (v:= .tuple #[.agg (bsA spB), .bool true]) (res_arr2 _ 2 3 (by kernel_rfl) _ _ w.heap.size _ _ rfl rfl (SetQ.row hs)) rfl ⟨rfl,Gr.setRow hgr (Nat.le_refl _) _⟩
theorem six_83 (w:World):Calls Tryz.prog 170 #[.int .u8 83] w λe w'=>e= .returned (.tuple #[.agg (bsA (notB spB)), .bool true])/\Gr w w':=by
 obtain ⟨hz,hsz⟩:=zero_of_info info_arr;have g0:Gr w ((w.alloc (Obj.cells (bsA noB) 215)).alloc (Obj.cells (bsA noB) 215)):=gq;have s0:SetQ ((w.alloc (Obj.cells (bsA noB) 215)).alloc (Obj.cells (bsA noB) 215)) w.heap.size noB:=(SetQ.new w noB).gr (Gr.alloc (Gr.refl _) _);have s1:SetQ ((w.alloc (Obj.cells (bsA noB) 215)).alloc (Obj.cells (bsA noB) 215)) (w.heap.size+1) noB:=by
  have:=SetQ.new (w.alloc (Obj.cells (bsA noB) 215)) noB;simpa using this
 go_enter Tryz.func170,Tryz.ntmps170;go_wp2;generalize ((w.alloc (Obj.cells (bsA noB) 215)).alloc (Obj.cells (bsA noB) 215))=w0 at g0 s0 s1 ⊢;clear hz hsz
 go_loopw [5] (λi wr=>∃k:Nat,k<=256/\i= .int .i64 k/\Gr w wr/\SetQ wr w.heap.size noB/\SetQ wr (w.heap.size+1) (λj=>bif decide (j<k) then (notB spB) j else false)) (λi _=>256-(intOf i).toNat)
 case atStart=>exact ⟨0,by omega,rfl,g0,s0,s1.eq λi _=>by simp[noB]⟩
 case round=>
  clear g0 s0 s1;obtain ⟨k,hk,rfl,hgr,hs,ht⟩:=hrel;by_cases hlt:k<256
  ·have h3:(k:Int)<256:=by omega
   have hcell:=ht.cell hlt;rw[show (bif decide (k<k) then (notB spB) k else false)=false by simp] at hcell;have hf:=ht.free k;have hrel2:∀v:Bool,(notB spB) k=v->SetQ (wr.setCell ⟨w.heap.size+1,k,none⟩ (.bool v)) (w.heap.size+1) (λj=>bif decide (j<k+1) then (notB spB) j else false):=λv hv=>(ht.set k v).eq λi _=>by
    by_cases hi:i=k
    ·subst hi;simp[hv]
    ·have e1:(i==k)=false:=by simpa using hi
     have e2:decide (i<k+1)=decide (i<k):=by rw[decide_eq_decide];omega
     simp only[e1,cond_false,e2]
   have Hrel2:=Lib.hid hrel2;have Hs:=Lib.hid hs;have Ht:=Lib.hid ht;have Hgr:=Lib.hid hgr;clear hrel2 hs ht hgr;have hcase:(0<=k/\k<=8)\/(9<=k/\k<=13)\/(14<=k/\k<=31)\/(32<=k/\k<=32)\/(33<=k/\k<=255):=by omega
   rcases hcase with ⟨hr,hr2⟩|⟨hr,hr2⟩|⟨hr,hr2⟩|⟨hr,hr2⟩|⟨hr,hr2⟩
   ·have g0:¬(9:Int)<=(k:Int):=by omega
    have g1:(k:Int)<=13:=by omega
    have g9:((k:Int)==32)=false:=by simp;omega
    go_wp2;go_roundw;case rel=>exact ⟨k+1,by omega,by go_num,Gr.setCell Hgr.out (p:=⟨w.heap.size+1,k,none⟩) (by simp) _,Hs.out.other (p:=⟨w.heap.size+1,k,none⟩) (by simp) _,Hrel2.out true (by exact notB_t (by rw[Bool.eq_false_iff,ne_eq,spB_iff];omega))⟩
    case measure=>simp[intOf];omega
   ·have g0:(9:Int)<=(k:Int):=by omega
    have g1:(k:Int)<=13:=by omega
    have g9:((k:Int)==32)=false:=by simp;omega
    go_wp2;go_roundw;case rel=>exact ⟨k+1,by omega,by go_num,Gr.setCell Hgr.out (p:=⟨w.heap.size+1,k,none⟩) (by simp) _,Hs.out.other (p:=⟨w.heap.size+1,k,none⟩) (by simp) _,Hrel2.out false (by exact notB_f ((spB_iff k).2 (by omega)))⟩
    case measure=>simp[intOf];omega
   ·have g0:(9:Int)<=(k:Int):=by omega
    have g1:¬(k:Int)<=13:=by omega
    have g9:((k:Int)==32)=false:=by simp;omega
    go_wp2;go_roundw;case rel=>exact ⟨k+1,by omega,by go_num,Gr.setCell Hgr.out (p:=⟨w.heap.size+1,k,none⟩) (by simp) _,Hs.out.other (p:=⟨w.heap.size+1,k,none⟩) (by simp) _,Hrel2.out true (by exact notB_t (by rw[Bool.eq_false_iff,ne_eq,spB_iff];omega))⟩
    case measure=>simp[intOf];omega
   ·have g0:(9:Int)<=(k:Int):=by omega
    have g1:¬(k:Int)<=13:=by omega
    have g9:((k:Int)==32)=true:=by simp;omega
    go_wp2;go_roundw;case rel=>exact ⟨k+1,by omega,by go_num,Gr.setCell Hgr.out (p:=⟨w.heap.size+1,k,none⟩) (by simp) _,Hs.out.other (p:=⟨w.heap.size+1,k,none⟩) (by simp) _,Hrel2.out false (by exact notB_f ((spB_iff k).2 (by omega)))⟩
    case measure=>simp[intOf];omega
   ·have g0:(9:Int)<=(k:Int):=by omega
    have g1:¬(k:Int)<=13:=by omega
    have g9:((k:Int)==32)=false:=by simp;omega
    go_wp2;go_roundw;case rel=>exact ⟨k+1,by omega,by go_num,Gr.setCell Hgr.out (p:=⟨w.heap.size+1,k,none⟩) (by simp) _,Hs.out.other (p:=⟨w.heap.size+1,k,none⟩) (by simp) _,Hrel2.out true (by exact notB_t (by rw[Bool.eq_false_iff,ne_eq,spB_iff];omega))⟩
    case measure=>simp[intOf];omega
  ·have hk':k=256:=by omega
   subst hk';have ht':SetQ wr (w.heap.size+1) (notB spB):=ht.eq λi hi=>by simp[hi]
   clear ht;go_wp2_with (first
    | (refine wpList_load_row rfl 215 (.tmp 4) rfl (w.heap.size+1) rfl _ (bsA (notB spB)) (0,0) _ ht' und_arr rfl (size_bsQ _) ?_)
    | (refine wpList_store_row rfl 215 (.tmp 2) (.tmp 53) rfl w.heap.size (bsA (notB spB)) rfl rfl _ _ hs (size_bsQ _) (by simp only[bsA_size]) (bsA_one _) ?_))
   exact bodyPost_ret (v:= .tuple #[.agg (bsA (notB spB)), .bool true]) (res_arr2 _ 2 3 (by kernel_rfl) _ _ w.heap.size _ _ rfl rfl (SetQ.row hs)) rfl ⟨rfl,Gr.setRow hgr (Nat.le_refl _) _⟩
end Go.Proofs.YtjapddfnpmlifaaGreatDoor
