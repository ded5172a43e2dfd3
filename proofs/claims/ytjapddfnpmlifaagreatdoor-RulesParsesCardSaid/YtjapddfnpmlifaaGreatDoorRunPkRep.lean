import Derived.Test.YtjapddfnpmlifaaGreatDoorRunPkAdds
import Derived.Laws.CopyOwn
import Derived.Test.YtjapddfnpmlifaaGreatDoorRunRxComp
import Derived.Test.YtjapddfnpmlifaaGreatDoorRunPkVis
import Derived.Test.YtjapddfnpmlifaaGreatDoorRunFxBase
import Derived.Deep.Light
import Derived.Deep.Cut
import Derived.Deep.CutRange
set_option linter.all false
set_option maxRecDepth 1000000
set_option maxHeartbeats 12800000
namespace Go.Proofs.YtjapddfnpmlifaaGreatDoor
open Go.RowKit
theorem info_intP:(Tryz.prog.info? 3).map (λi=>(i.zero,i.size,i.bytes))=some (some (.int .i64 0),1,8):=by kernel_rfl
def IRow (w:World) (g m:Nat):Prop:=∃cur:List Value,cur.length=m/\(∀v∈cur,∃z:Int,v= .int .i64 z)/\w.heap[g]?=some (.cells cur.toArray 3 (0,0))
theorem IRow.lt {w:World} {g m:Nat} (h:IRow w g m):g<w.heap.size:=by
 obtain ⟨cur, -, -,hh⟩:=h;exact (Array.getElem?_eq_some_iff.1 hh).1
theorem IRow.plc {w:World} {g m:Nat} (h:IRow w g m) (h0:0<m) (hm:m<=3000):Plc w (.slice (some ⟨g,0,none⟩) m m) g m:=by
 have hlt:=h.lt;obtain ⟨cur,hl,hz,hh⟩:=h;refine ⟨m,rfl,h0,hm,hlt,λj hj=>?_⟩;obtain ⟨z,e⟩:=hz (cur[j]'(by omega)) (List.getElem_mem _);exact ⟨z,(cell_of_row _ _ _ _ _ _ hh).trans (by simp[<-e,hl,hj])⟩
theorem IRow.made (w:World) (N:Nat):IRow (w.alloc (.cells (madeCells (Value.int .i64 0).cells N) 3)) w.heap.size N:=by
 refine ⟨(madeCells (Value.int .i64 0).cells N).toList,by simp[madeCells],λv hv=>?_,?_⟩
 ·simp[madeCells,Value.cells] at hv;obtain ⟨a,_,rfl⟩:=hv;exact ⟨0,by simp[Nat.mod_one]⟩
 ·rw[Array.toArray_toList];exact heap_alloc_new w _
theorem splice_ints {cur cs:List Value} {o:Nat} (h1:∀v∈cur,∃z:Int,v= .int .i64 z) (h2:∀v∈cs,∃z:Int,v= .int .i64 z):∀v∈splice cur o cs,∃z:Int,v= .int .i64 z:=by
 intro v hv;unfold splice at hv;rw[List.mem_append,List.mem_append] at hv;rcases hv with hv|hv|hv
 ·exact h1 v (List.mem_of_mem_take hv)
 ·exact h2 v hv
 ·exact h1 v (List.mem_of_mem_drop hv)
theorem splice_len {cur cs:List Value} {o:Nat} (h:o+cs.length<=cur.length):(splice cur o cs).length=cur.length:=by
 unfold splice;simp only[List.length_append,List.length_take,List.length_drop];omega
def RetRp (m:Nat) (w:World) (e:Ending) (w':World):Prop:=∃v a,e= .returned v/\Plc w' v a m/\Gr w w'/\w.heap.size<=a
theorem pint_one {l:List Value} (h:∀v∈l,∃z:Int,v= .int .i64 z):∀v∈l,v.oneCell'=true:=λv hv=>by obtain ⟨z,rfl⟩:=h v hv;rfl
section
variable {P:Program}
theorem wp_copy_splice {o:Oper} {a:Act} {w:World} {K:Act->World->Prop} {Q:Exit->Act->World->Prop} (hgd:o.guard=none) (d s:Operand) (dT sT:TypeId)
  (ho:o.op= .call {callee:= .builtin .copy,args:= #[d,s],argTypes:= #[dT,sT]}) (elem:TypeId) (hu:P.underlying dT=some (.slice elem)) (hsz:(P.info? elem).map (·.size)=some 1)
  (dp sp:Option Addr) (dLen dCap sLen sCap:Nat) (hd:a.eval d= .slice dp dLen dCap) (hs:a.eval s= .slice sp sLen sCap)
  (g off:Nat) (cur:List Value) (t:TypeId) (hg:w.heap[g]?=some (.cells cur.toArray t (0,0))) (cs:List Value) (hn:cs.length=Nat.min sLen dLen)
  (hpos:0<cs.length->dp=some ⟨g,off,none⟩/\∃ad,sp=some ad/\∀j v,cs[j]?=some v->w.cell? (ad.add j)=some v)
  (hfit:off+cs.length<=cur.length) (h1:∀v∈cs,v.oneCell'=true) (B:Nat) (w0:World) (hb:RowKit.Below B w0 w) (hBg:B<=g)
  (h:∀w',RowKit.Hid (w'.heap[g]?=some (.cells (splice cur off cs).toArray t (0,0)))->RowKit.Below B w0 w'->K (a.put o.dst (goInt cs.length)) w'):Oper.wp P o a w K Q:=by
 have h1:=step_copy_splice (E:=False) (ops:= #[]) hgd d s dT sT ho elem hu hsz dp sp dLen dCap sLen sCap hd hs g off cur t hg cs hn hpos hfit h1 B w0 hb hBg h (Q:=Q)
 rwa [if_pos (by simp[Region.wanted,hgd])] at h1
end
theorem add_zero_blk (b j:Nat):(⟨b,0,none⟩:Addr).add j=⟨b,j,none⟩:=by
 unfold Addr.add;split
 ·rename_i h;subst h;rfl
 ·rw[Nat.zero_add]
theorem repeat_any (b m:Nat) (z:Int) (w:World) (hm:2<=m) (hm3:m<=3000) (hc:w.cell? ⟨b,0,none⟩=some (.int .i64 z)) :
  Calls Tryz.prog 54 #[.slice (some ⟨b,0,none⟩) 1 1, .int .i64 m] w (RetRp m w):=by
 obtain ⟨j0,hj0,jz0,jz1,jz2⟩:=info_parts info_intP;have hmi:(m:Int)<=3000:=by omega
 have hm2:(2:Int)<=(m:Int):=by omega
 have hmu:=Tryz.bits_Mul 1 m (by omega) (by omega) w;rw[show (1*m/18446744073709551616:Nat)=0 by omega,show (1*m%18446744073709551616:Nat)=m by omega] at hmu;have HMU:=Lib.hid hmu;have hbz:=World.block_lt_of_cell? _ _ hc;have hms:∀W,(Instr.makeSlice 90 (.int .i64 (m:Nat)) (.int .i64 (m:Nat))).run Tryz.prog W= .ok (.slice (some ⟨W.heap.size,0,none⟩) m m) (W.alloc (.cells (madeCells (Value.int .i64 0).cells m) 3)):=λW=>by
  have:=run_makeSlice (P:=Tryz.prog) (w:=W) 90 3 j0 (.int .i64 0) Tryz.underlying90 hj0 jz0 .i64 .i64 (m:Int) (m:Int) (by omega) (Int.le_refl _) (by rw[jz1];simp;omega) (by rw[jz2];omega) (by omega);rw[jz1,Nat.mul_one,Int.toNat_natCast] at this;exact this
 clear hmu;obtain ⟨cur0,hl0,hz0,hh0⟩:=IRow.made w m;have hsz:(Tryz.prog.info? 3).map (·.size)=some 1:=by kernel_rfl
 have gA:Gr w (w.alloc (.cells (madeCells (Value.int .i64 0).cells m) 3)):=Gr.alloc (Gr.refl w) _;have hcA:=bc gA hbz hc;go_enter Tryz.func54,Tryz.ntmps54;go_wp2_with (first|(go_at_call 88;refine HMU.out.mono ?_;rintro e w' ⟨rfl,hww⟩;obtain rfl:w=w':=hww.symm)|((with_reducible change wpList _ _ _ (⟨some 33,_,_,_,_,_⟩::_) _ _);refine wpList_copy_splice rfl (.tmp 31) (.tmp 32) 90 90 rfl 3 Tryz.underlying90 hsz (some ⟨w.heap.size,0,none⟩) (some ⟨b,0,none⟩) m m 1 1 (by rfl) (by rfl) w.heap.size 0 cur0 3 hh0 [.int .i64 z] (Nat.min_eq_left (by omega:1<=m)).symm (λ_=>⟨rfl,_,rfl,λj v hv=>by rw[add_zero_blk];rcases j with _|j;(simp at hv;rw[<-hv];exact hcA);(simp at hv)⟩) (by simp;omega) (by simp[Value.oneCell']) w.heap.size w gA (Nat.le_refl _) ?_;intro w2 hh2 hb2));have hI2:IRow w2 w.heap.size m:=⟨_,by rw[splice_len (by simp;omega)];exact hl0,splice_ints hz0 (by simp),hh2⟩
 have HI2:=Lib.hid (And.intro hI2 hb2);obtain ⟨g,hg⟩:∃g,g=w.heap.size:=⟨_,rfl⟩
 rw[<-hg] at HI2 ⊢;have HG:=Lib.hid hg;clear hI2 hb2 hh2 hg hh0 hz0 hl0 gA hcA hc hms HMU
 go_loopw [8] (λv wr=>∃k:Nat,1<=k/\k<=m/\v= .int .i64 k/\Below g w wr/\IRow wr g m) (λv _=>m-(intOf v).toNat)
 case atStart=>exact ⟨1,Nat.le_refl _,by omega,rfl,HI2.out.2,HI2.out.1⟩
 case round=>
  obtain ⟨k,hk1,hkm,rfl,hbr,hI⟩:=hrel;clear HI2;have hki:(1:Int)<=(k:Int):=by omega
  have hkmi:(k:Int)<=(m:Int):=by omega
  by_cases hlt:k<m
  ·have hlti:(k:Int)<(m:Int):=by omega
   have hgz:=hI.lt;obtain ⟨cur,hl,hz,hh⟩:=hI;obtain ⟨c,hcd⟩:∃c,c=Nat.min k (m-k):=⟨_,rfl⟩
   have hc1:1<=c/\c<=k/\k+c<=m:=by rw[hcd];simp only[Nat.min_def];split<;>omega
   have HCD:=Lib.hid hcd;clear hcd;have hwr:IntKind.i64.wrap ((k:Int)+(c:Int))=(k:Int)+(c:Int):=IntWalk.i64_in _ (by omega);have hcl:(cur.take c).length=c:=by rw[List.length_take];omega
   have HH:=Lib.hid (And.intro hh (And.intro hl hz));have HB:=Lib.hid hbr;have HCL:=Lib.hid hcl;have HC1:=Lib.hid hc1;clear hh hl hz hbr hcl;go_upto_region 9 with (fail)
   refine wp_region_Z 9 (λ_=>True) (by kernel_rfl) ?_;have hS0:True:=True.intro;refine zu 0 hS0 ?_;refine zu 1 hS0 ?_;refine zu 2 hS0 ?_;refine zu 3 hS0 ?_;refine zu 4 hS0 ?_;refine zu 5 hS0 ?_;refine zu 6 hS0 ?_;refine zs 7 rfl (λK hK=>?_);refine wp_copy_splice rfl (.tmp 41) (.tmp 44) 90 90 rfl 3 Tryz.underlying90 hsz (if m=k then some ⟨g,0,none⟩ else some ⟨g,k,none⟩) (some ⟨g,0,none⟩) (m-k) (m-k) k m (by rfl) (by rfl) g k cur 3 (by exact HH.out.1) (cur.take c) (by rw[HCL.out,HCD.out]) (λ_=>⟨if_neg (by omega),_,rfl,λj v hv=>by
    rw[add_zero_blk];refine (cell_of_row _ _ _ _ _ _ HH.out.1).trans ?_;rw[List.getElem?_take] at hv;split at hv
    ·simpa using hv
    ·cases hv⟩) (by rw[HCL.out,HH.out.2.1];exact HC1.out.2.2) (pint_one (λv hv=>HH.out.2.2 v (List.mem_of_mem_take hv))) g w (by exact HB.out.drew) (Nat.le_refl _) ?_
   intro w3 hh3 hb3;rw[HCL.out];have HI3:Hid (Below g w w3/\IRow w3 g m):=Lib.hid ⟨hb3,_,by rw[splice_len (by rw[HCL.out,HH.out.2.1];exact HC1.out.2.2)];exact HH.out.2.1,splice_ints HH.out.2.2 (λv hv=>HH.out.2.2 v (List.mem_of_mem_take hv)),hh3⟩;clear hh3 hb3;refine hK.out _ _ (λhnz=>?s8) (λ_=>?r8);case s8=>exact True.intro
   clear hK K;try simp only[Pu,Gl]
   refine zu 8 hS0 ?_;refine zs 9 rfl (λK hK=>?_);go_wp2_with fail;refine hK.out _ _ (λhnz=>?s10) (λ_=>?r10);case s10=>exact absurd rfl hnz
   clear hK K;try simp only[Pu,Gl]
   refine wpAnyZ_done (by kernel_rfl) ?_ _;clear hwr;go_wp2;go_roundw;case rel=>exact ⟨k+c,by omega,HC1.out.2.2,by go_num,HI3.out.1,HI3.out.2⟩
   case measure=>simp[intOf];have:=HC1.out;omega
  ·have hmk:k=m:=by omega
   subst hmk;have HF:Hid (RetRp k w (.returned (.slice (some ⟨g,0,none⟩) k k)) wr):=Lib.hid ⟨_,g,rfl,hI.plc (by omega) hm3,by rw[HG.out] at hbr;exact hbr,Nat.le_of_eq HG.out.symm⟩;clear hI hbr hlt;go_wp2;go_ret;exact HF.out
section
open Go.RowKit Go.Maps
def RcP (code:List In) (t:List UInt8) (p:Nat) (x:Int):Prop:=Rc code t (λi=>i<=t.length) x p
def NoB (code:List In) (t:List UInt8) (p:Nat):Prop:=∀(k:Nat) (hk:k<code.length) (q:Nat),q<p->Rc code t (λi=>i<=t.length) k q->code[k].op≠7
def ByB (code:List In) (t:List UInt8) (p:Nat) (S:Int->Bool):Prop:=∀(k:Nat) (hk:k<code.length) (p':Nat),p=p'+1->Rc code t (λi=>i<=t.length) k p'->code[k].op=1->∀q∈succS code t k p',InR code q.1->S q.1=true
structure FdL (n:Nat) (code:List In) (t:List UInt8) (p:Nat) (Q:Int->Prop) (w0:World) (hl:Nat) (wr:World) (B:Nat) (b0:Nat) (v:Value) (W:List Pw) (Wn:List Nat) (S:Int->Bool) (nB:Nat):Prop where
 gr:Gr w0 wr
 lo:w0.heap.size<=hl/\w0.heap.size<=B/\b0<=wr.heap.size/\∀k,v.ownBlock=some k->w0.heap.size<=k
 ls:LsM b0 hl B nB wr v W S
 wn:W.map (·.pc)=Wn.map (λk:Nat=>(k:Int))
 law:PkA code t p Q S Wn []
 nb:nB+unseenP S n=n
def FdN (n:Nat) (code:List In) (t:List UInt8) (p:Nat) (w0:World) (hl:Nat) (wr:World):Prop:=∃B b0 v W Wn S nB,FdL n code t p (RcP code t p) w0 hl wr B b0 v W Wn S nB/\NoB code t p/\ByB code t p S
def FdY (n:Nat) (code:List In) (t:List UInt8) (p:Nat) (w0:World) (hl:Nat) (wr:World) (fv:Value):Prop:=isC code t=true/\(∃a m,Plc wr fv a m)/\∃B b0 v W Wn S nB,FdL n code t p (λ_=>True) w0 hl wr B b0 v W Wn S nB
def FdS (n:Nat) (code:List In) (t:List UInt8) (p:Nat) (w0:World) (hl:Nat) (wr:World) (ob:Bool) (fv:Value):Prop:=(ob=false/\fv= .slice none 0 0/\FdN n code t p w0 hl wr)\/(ob=true/\FdY n code t p w0 hl wr fv)
def RetFp (b:Bool) (w:World) (e:Ending) (w':World):Prop:=∃v,e= .returned (.tuple #[v, .bool b])/\Gr w w'
theorem RetFp.of {b c:Bool} {v:Value} {w w':World} (h:b=c) (g:Gr w w'):RetFp b w (.returned (.tuple #[v, .bool c])) w':=by subst h;exact ⟨v,rfl,g⟩
theorem fd_start (n:Nat) (code:List In) (t:List UInt8) (w:World) {w0:World} (g:Gr w0 w):FdN n code t 0 w0 (w.heap.size+1) ((w.alloc (.map #[] 0)).alloc (.cells #[.slice none 0 0, .map (some w.heap.size)] 123)):=by
 refine ⟨w.heap.size,w.heap.size,_,_,[],_,0,⟨g.trans (Gr.alloc (Gr.alloc (Gr.refl w) _) _),⟨Nat.le_succ_of_le g.size,g.size,by simp;omega,λk hk=>(by cases hk)⟩,LsM.made w,rfl,PkA.none code t 0 _,by rw[unseenP_none];omega⟩,λk hk q hq=>absurd hq (Nat.not_lt_zero _),λk hk p' hp=>by omega⟩
section
variable {n:Nat} {code:List In} {t:List UInt8} {p:Nat} {w0 wr w2:World} {hl B b0:Nat} {v:Value} {W:List Pw} {Wn:List Nat} {S:Int->Bool} {nB:Nat}
theorem PkA.whole (h:PkA code t p (RcP code t p) S Wn []) (h0:InR code 0->S 0=true) (hb:ByB code t p S) {x:Int} (hr:RcP code t p x) (hi:InR code x):S x=true:=
 h.all h0 hb hr rfl hi
theorem RcP.closed (k:Nat) (x:Int) (h:RcP code t p k) (hx:x∈succE code t k p):RcP code t p x:=h.goes x hx
theorem RcP.byte {k:Nat} (h:RcP code t p k) (hs:SelB code t p k):RcP code t (p+1) ((k:Int)+1):=by
 obtain ⟨hk,hp,h1,h2⟩:=hs;have:=Rc.step _ _ ((k:Int)+1,p+1) h (by rw[succS_at hk,if_pos h1,dif_pos hp,if_pos h2];exact List.mem_singleton.2 rfl);exact this
theorem FdN.next {pv:Value} {j:Nat} {v':Value} {W':List Pw} {Wn':List Nat} {S':Int->Bool} {nB':Nat} {wa:World} (hp:p<=t.length) (law:PkA code t p (RcP code t p) S Wn []) (hN:NoB code t p) (h0:InR code 0->S 0=true) (hb:ByB code t p S) (hga:Gr w0 wa)
  (I:StI n code t p (RcP code t (p+1)) Wn wa j w2 v' W' Wn' S' nB') (hj:j=Wn.length):FdN n code t (p+1) w0 (wa.heap.size+1) w2:=by
 subst hj;have all:∀(k:Nat) (hk:k<code.length),Rc code t (λi=>i<=t.length) k p->code[k].op=1\/code[k].op=7->∃i,i<Wn.length/\Wn[i]?=some k:=λk hk hr ho=>by
  have hs:=law.whole h0 hb hr ⟨by omega,by omega⟩;have hm:=(law.cls k hk hs).1 ho;obtain ⟨i,hi,e⟩:=List.getElem_of_mem hm;exact ⟨i,hi,by rw[List.getElem?_eq_getElem hi,e]⟩
 refine ⟨wa.heap.size,wa.heap.size,v',W',Wn',S',nB',⟨hga.trans I.gr,⟨Nat.le_succ_of_le hga.size,hga.size,I.gr.size,λk hk=>Nat.le_trans hga.size (I.ov k hk)⟩,I.ls,I.wn,I.law,I.nb⟩,λk hk q hq hr=>?_,λk hk p' hpp hr h1 q hq hi=>?_⟩
 ·rcases Nat.lt_succ_iff_lt_or_eq.1 hq with h|h
  ·exact hN k hk q h hr
  ·subst h;intro h7;obtain ⟨i,hi,e⟩:=all k hk hr (.inr h7);exact (I.all i hi k e).1 hk h7
 ·have hpe:p'=p:=by omega
  subst hpe;obtain ⟨i,hi2,e⟩:=all k hk hr (.inl h1);rw[succS_at hk,if_pos h1] at hq;split at hq
  ·rename_i hlt;split at hq
   ·rename_i hh;rw[List.mem_singleton] at hq;subst hq;exact (I.all i hi2 k e).2 ⟨hk,hlt,h1,hh⟩ hi
   ·cases hq
  ·cases hq
theorem FdY.met {pv:Value} {j:Nat} {Q:Int->Prop} {v':Value} {W':List Pw} {Wn':List Nat} {S':Int->Bool} {nB':Nat} {wa:World} (hc:isC code t=true) (hga:Gr w0 wa) (I:StI n code t p Q Wn wa j w2 v' W' Wn' S' nB') (hpl:∃a m,Plc w2 pv a m):FdY n code t (p+1) w0 (wa.heap.size+1) w2 pv:=
 ⟨hc,hpl,wa.heap.size,wa.heap.size,v',W',Wn',S',nB',⟨hga.trans I.gr,⟨Nat.le_succ_of_le hga.size,hga.size,I.gr.size,λk hk=>Nat.le_trans hga.size (I.ov k hk)⟩,I.ls,I.wn,⟨λ_ _=>trivial,λx hx=>⟨trivial,(I.law.sS x hx).2⟩,I.law.sW,I.law.cls⟩,I.nb⟩⟩
theorem isC_met (law:PkA code t p (RcP code t p) S Wn []) (h:∃k∈Wn,∃hk:k<code.length,code[k].op=7):isC code t=true:=by
 obtain ⟨k,hm,hk,h7⟩:=h;have h1:=(law.sS k (law.sW k hm).1).1;unfold isC;exact @decide_eq_true _ (Classical.propDecidable _) ⟨k,p,hk,h1,h7⟩
theorem isC_none (hN:NoB code t (t.length+1)):isC code t=false:=by
 unfold isC;refine @decide_eq_false _ (Classical.propDecidable _) ?_;rintro ⟨k,q,hk,hr,h7⟩;exact hN k hk q (by have:=hr.le;omega) hr h7
theorem FdL.added {e:Ending} {pc:Int} (h:FdL n code t p (RcP code t p) w0 hl wr B b0 v W Wn S nB) (hN:NoB code t p) (hb:ByB code t p S) (r:RetAd b0 hl B nB n code t p (RcP code t p) wr v S pc e w2) :
  ∃v' W' Wn' S' nB',FdL n code t p (RcP code t p) w0 hl w2 B b0 v' W' Wn' S' nB'/\ByB code t p S'/\(InR code pc->S' pc=true):=by
 obtain ⟨-,v2,W2,Wn2,S2,nB2,L,hwn,law,hin,hmo,f,ho,hnb⟩:=r;obtain ⟨l1,l2,l3,l4⟩:=h.lo;refine ⟨v2,W2,Wn2,S2,nB2,⟨f.below h.gr (λx hx=>?_),⟨l1,l2,Nat.le_trans l3 f.size,λx hx=>?_⟩,L,hwn,law,by rw[hnb];exact h.nb⟩,λk hk p' hp hr h1 q hq hi=>hmo _ (hb k hk p' hp hr h1 q hq hi),hin⟩
 ·rcases hx with e|e|e
  ·omega
  ·omega
  ·exact l4 x e.symm
 ·rcases ho with e|⟨y,e,hy⟩
  ·exact l4 x (by rw[<-e];exact hx)
  ·rw[e] at hx;injection hx with hx;subst hx;exact Nat.le_trans h.gr.size hy
theorem FdL.go {Q:Int->Prop} (h:FdL n code t p Q w0 hl wr B b0 v W Wn S nB) (g:Gr wr w2):FdL n code t p Q w0 hl w2 B b0 v W Wn S nB:=by
 obtain ⟨l1,l2,l3,l4⟩:=h.lo;exact ⟨h.gr.trans g,⟨l1,l2,Nat.le_trans l3 g.size,l4⟩,h.ls.gr g,h.wn,h.law,h.nb⟩
theorem FdL.old {Q:Int->Prop} (h:FdL n code t p Q w0 hl wr B b0 v W Wn S nB) {x:Nat} (hx:x<w0.heap.size):¬exA hl B v x:=λe=>by
 obtain ⟨l1,l2,l3,l4⟩:=h.lo;rcases e with e|e|e
 ·omega
 ·omega
 ·have:=l4 x e.symm;omega
theorem PkA.ops {Q:Int->Prop} (law:PkA code t p Q S Wn []):∀k∈Wn,∃h:k<code.length,code[k].op=1\/code[k].op=7:=λk hk=>(law.sW k hk).2
end
end
section
open Go.RowKit Go.Maps
structure FdK (G n cA:Nat) (A:Option Addr) (code:List In) (s:ByteArray) (hw:Nat) (w0:World) (nv:Value):Prop where
 hn:n=code.length
 hn2:n<=2000
 hs:(s.size:Int)<=4096
 hps:∀v∈code,v.ps.length<=100000
 hw0:hw<w0.heap.size
 k0:w0.cell? ⟨hw,0,none⟩=some (.int .i64 G)
 k1:w0.cell? ⟨hw,1,none⟩=some (.slice A n cA)
 k2:w0.cell? ⟨hw,2,none⟩=some (.string s)
 hr:Ri w0 A code
 hp:∃a m,Plc w0 nv a m
def FdA (n:Nat) (code:List In) (t:List UInt8) (p:Nat) (w0:World) (hl:Nat) (wr:World):Prop:=∃B b0 v W Wn S nB,FdL n code t p (RcP code t p) w0 hl wr B b0 v W Wn S nB/\NoB code t p/\ByB code t p S/\(InR code 0->S 0=true)
section
variable {G n cA:Nat} {A:Option Addr} {code:List In} {s:ByteArray} {hw:Nat} {w0 wr:World} {nv:Value} {p hl:Nat}
theorem FdK.cells (K:FdK G n cA A code s hw w0 nv) (g:Gr w0 wr):wr.cell? ⟨hw,0,none⟩=some (.int .i64 G)/\wr.cell? ⟨hw,1,none⟩=some (.slice A n cA)/\wr.cell? ⟨hw,2,none⟩=some (.string s):=
 ⟨(bc g K.hw0 K.k0),(bc g K.hw0 K.k1),(bc g K.hw0 K.k2)⟩
theorem FdN.adds_call (K:FdK G n cA A code s hw w0 nv) (h:FdN n code s.data.toList p w0 hl wr) (hp:p<=s.size) :
  Calls Tryz.prog 55 #[.pointer (some ⟨hw,0,none⟩), .pointer (some ⟨hl,0,none⟩), .agg #[nv, .int .i64 0], .int .i64 p] wr (λe w'=>e= .returned (.tuple #[])/\FdA n code s.data.toList p w0 hl w'):=by
 obtain ⟨B,b0,v,W,Wn,S,nB,hL,hN,hB⟩:=h;obtain ⟨c0,c1,c2⟩:=K.cells hL.gr;obtain ⟨a,m,hP⟩:=K.hp;have hpt:p<=s.data.toList.length:=by simpa using hp
 have haz:a<w0.heap.size:=by obtain ⟨c,e,h0,hm,ha,hc⟩:=hP;exact ha
 have hnb:=hL.nb;have hax:0<n->∀ad,A=some ad->¬exA hl B v ad.block:=λh0 ad e=>by
  obtain ⟨ad',e',hb, -⟩:=K.hr.2 (by rw[<-K.hn];exact h0);rw[e] at e';injection e' with e';subst e';exact hL.old hb
 have hQ0:RcP code s.data.toList p 0:=Rc.start p hpt hpt;have H:=padds_any b0 hw hl B nB n cA G A code s p (RcP code s.data.toList p) nv 0 wr v W Wn S K.hn K.hn2 (by omega) K.hs hp c0 c1 c2 (K.hr.gr hL.gr) (hL.old K.hw0) hax hL.ls hL.lo.2.2.1 ⟨a,m,hP.gr hL.gr,hL.old haz⟩ hL.wn hL.law hQ0 RcP.closed;refine H.mono ?_;intro e w' r;have e1:=r.1;obtain ⟨v',W',Wn',S',nB',hL',hB',hin⟩:=hL.added hN hB r;exact ⟨e1,B,b0,v',W',Wn',S',nB',hL',hN,hB',hin⟩
theorem FdL.len {Q:Int->Prop} {B b0:Nat} {v:Value} {W:List Pw} {Wn:List Nat} {S:Int->Bool} {nB:Nat} (hL:FdL n code s.data.toList p Q w0 hl wr B b0 v W Wn S nB) (hn2:n<=2000):∃(A1:Option Addr) (L c1:Nat),L<=2000/\hl<wr.heap.size/\wr.cell? ⟨hl,0,none⟩=some (.slice A1 L c1):=by
 obtain ⟨A1,c1,hv⟩:=own_form hL.ls.own;have h1:=hL.ls.wl;have h2:=hL.nb;have h3:=hL.ls.c0;rw[hv] at h3;exact ⟨A1,W.length,c1,by omega,hL.ls.hz,h3⟩
theorem FdA.ways (h:FdA n code s.data.toList p w0 hl wr) (hn2:n<=2000):∃(A1:Option Addr) (L c1:Nat),L<=2000/\hl<wr.heap.size/\wr.cell? ⟨hl,0,none⟩=some (.slice A1 L c1):=by
 obtain ⟨B,b0,v,W,Wn,S,nB,hL, -⟩:=h;exact hL.len hn2
theorem FdY.ways {fv:Value} (h:FdY n code s.data.toList p w0 hl wr fv) (hn2:n<=2000):∃(A1:Option Addr) (L c1:Nat),L<=2000/\hl<wr.heap.size/\wr.cell? ⟨hl,0,none⟩=some (.slice A1 L c1):=by
 obtain ⟨-, -,B,b0,v,W,Wn,S,nB,hL⟩:=h;exact hL.len hn2
def RetSc (n:Nat) (code:List In) (t:List UInt8) (p:Nat) (w0:World) (ob:Bool) (fv:Value) (e:Ending) (w':World):Prop:=
 ∃pv met hl',e= .returned (.tuple #[.pointer (some ⟨hl',0,none⟩),pv, .bool met])/\FdS n code t (p+1) w0 hl' w' (ob||met) (bif met then pv else fv)
theorem FdA.step_call (K:FdK G n cA A code s hw w0 nv) (h:FdA n code s.data.toList p w0 hl wr) (hp:p<=s.size) :
  Calls Tryz.prog 56 #[.pointer (some ⟨hw,0,none⟩), .pointer (some ⟨hl,0,none⟩), .int .i64 p] wr (RetSc n code s.data.toList p w0 false (.slice none 0 0)):=by
 obtain ⟨B,b0,v,W,Wn,S,nB,hL,hN,hB,h0⟩:=h;obtain ⟨c0,c1,c2⟩:=K.cells hL.gr;have hpt:p<=s.data.toList.length:=by simpa using hp
 have hnb:=hL.nb;have hQ0:∀k∈Wn,SelB code s.data.toList p k->RcP code s.data.toList (p+1) ((k:Int)+1):=λk hk hs=>RcP.byte (hL.law.sS k (hL.law.sW k hk).1).1 hs;have H:=step_any b0 hw hl B nB n cA G A code s p (RcP code s.data.toList (p+1)) wr v W Wn S K.hn K.hn2 K.hps K.hs hp c0 c1 c2 (K.hr.gr hL.gr) hL.ls hL.wn hL.law.ops (by have:=K.hn2;omega) hQ0 RcP.closed;refine H.mono ?_;rintro e w' ⟨pv,met,v',W',Wn',S',nB',j,e1,I,h1,h2⟩;refine ⟨pv,met,_,e1,?_⟩;cases met with
 | false=>exact .inl ⟨rfl,rfl,FdN.next (pv:=pv) hpt hL.law hN h0 hB hL.gr I (h2 rfl)⟩
 | true=>exact .inr ⟨rfl,FdY.met (isC_met hL.law (h1 rfl).1) hL.gr I (h1 rfl).2⟩
theorem FdY.step_call {fv:Value} (K:FdK G n cA A code s hw w0 nv) (h:FdY n code s.data.toList p w0 hl wr fv) (hp:p<=s.size) :
  Calls Tryz.prog 56 #[.pointer (some ⟨hw,0,none⟩), .pointer (some ⟨hl,0,none⟩), .int .i64 p] wr (RetSc n code s.data.toList p w0 true fv):=by
 obtain ⟨hc,⟨a,m,hP⟩,B,b0,v,W,Wn,S,nB,hL⟩:=h;obtain ⟨c0,c1,c2⟩:=K.cells hL.gr;have hnb:=hL.nb;have H:=step_any b0 hw hl B nB n cA G A code s p (λ_=>True) wr v W Wn S K.hn K.hn2 K.hps K.hs hp c0 c1 c2 (K.hr.gr hL.gr) hL.ls hL.wn hL.law.ops (by have:=K.hn2;omega) (λ_ _ _=>trivial) (λ_ _ _ _=>trivial);refine H.mono ?_;rintro e w' ⟨pv,met,v',W',Wn',S',nB',j,e1,I,h1,h2⟩;refine ⟨pv,met,_,e1,?_⟩;cases met with
 | false=>exact .inr ⟨rfl,FdY.met (pv:=fv) hc hL.gr I ⟨a,m,hP.gr I.gr⟩⟩
 | true=>exact .inr ⟨rfl,FdY.met hc hL.gr I (h1 rfl).2⟩
theorem FdN.gr (h:FdN n code s.data.toList p w0 hl wr):Gr w0 wr:=by
 obtain ⟨B,b0,v,W,Wn,S,nB,hL, -⟩:=h;exact hL.gr
theorem FdY.gr {fv:Value} (h:FdY n code s.data.toList p w0 hl wr fv):Gr w0 wr:=by
 obtain ⟨-, -,B,b0,v,W,Wn,S,nB,hL⟩:=h;exact hL.gr
theorem Plc.clone {w W:World} {sv:Value} {a m:Nat} (h:Plc w sv a m) (g:Gr w W):Calls Tryz.prog 57 #[sv] W λe w'=>∃v',e= .returned v'/\Gr W w':=by
 obtain ⟨zs,hzl,hzc⟩:=h.ints;obtain ⟨c,rfl,h0,hm,ha, -⟩:=h;refine (Tryz.slices_Clone_int a 0 m c zs W (by omega) (by omega) (λj hj=>(bc g ha (hzc j hj)))).mono ?_;rintro e w' ⟨v',e1, -, -,g'⟩;exact ⟨v',e1,g'⟩
theorem clone_nil (W:World):Calls Tryz.prog 57 #[.slice none 0 0] W λe w'=>∃v',e= .returned v'/\Gr W w':=by
 refine (Tryz.slices_Clone_int_nil 0 0 W).mono ?_;rintro e w' ⟨e1,rfl⟩;exact ⟨_,e1,Gr.refl _⟩
end
end
section
open Go.RowKit Go.Maps
theorem pfind_any (G n cA:Nat) (A:Option Addr) (code:List In) (s:ByteArray) (hn:n=code.length) (hn2:n<=2000) (hG:G<=1000) (hs:(s.size:Int)<=4096) (hps:∀v∈code,v.ps.length<=100000) (w:World) (hr:Ri w A code) :
  Calls Tryz.prog 37 #[.agg #[.int .i64 G, .slice A n cA], .string s, .int .i64 0] w (RetFp (isC code s.data.toList) w):=by
 obtain ⟨V,hV⟩:∃V,V=(w.alloc (.cells #[.int .i64 G, .slice A n cA] 71)).alloc (.cells #[.int .i64 G, .slice A n cA, .string s] 117):=⟨_,rfl⟩
 have gV:Gr w V:=by rw[hV];exact Gr.alloc (Gr.alloc (Gr.refl w) _) _
 have hzV:w.heap.size<V.heap.size:=by rw[hV];simp;omega
 have hwV:w.heap.size+1<V.heap.size:=by rw[hV];simp
 have b0:V.cell? ⟨w.heap.size,0,none⟩=some (.int .i64 G):=by rw[hV];go_simp
 have b1:V.cell? ⟨w.heap.size,1,none⟩=some (.slice A n cA):=by rw[hV];go_simp
 have k0:V.cell? ⟨w.heap.size+1,0,none⟩=some (.int .i64 G):=by rw[hV];go_simp
 have k1:V.cell? ⟨w.heap.size+1,1,none⟩=some (.slice A n cA):=by rw[hV];go_simp
 have k2:V.cell? ⟨w.heap.size+1,2,none⟩=some (.string s):=by rw[hV];go_simp
 have gR:Gr V (V.alloc (.cells #[.int .i64 (-1)] 3)):=Gr.alloc (Gr.refl V) _;have hrp:=repeat_any V.heap.size (2*G+2) (-1) (V.alloc (.cells #[.int .i64 (-1)] 3)) (by omega) (by omega) (by go_simp);rw[show ((2*G+2:Nat):Int)=2*(G:Int)+2 by omega] at hrp;have HRP:=Lib.hid hrp;have HV:=Lib.hid hV;have HGV:=Lib.hid (And.intro gV gR);have HR0:=Lib.hid hr;have HPS:=Lib.hid hps;have hsl:Hid (s.data.toList.length=s.size):=Lib.hid (by simp);have HCC:=Lib.hid (And.intro hn hsl.out);have hGi:(G:Int)<=1000:=by omega
 have HKV:=Lib.hid (And.intro k0 (And.intro k1 k2));have HwV:=Lib.hid hwV;clear hV gV gR hr hps hn hrp k0 k1 k2 hwV;have hmm:= @run_makeMap Tryz.prog;go_enter Tryz.func37,Tryz.ntmps37;go_upto_region 4 with (fail)
 rw[<-HV.out];clear HV;go_upto_region 5 with (go_at_call 54;refine HRP.out.mono ?_;rintro e wN ⟨nv,na,rfl,hpn,gN,hnn⟩;obtain ⟨cn,hnv, -⟩:=id hpn;subst hnv)
 have gVN:Gr V wN:=HGV.out.2.trans gN;have hwN:w.heap.size+1<wN.heap.size:=Nat.lt_of_lt_of_le HwV.out gVN.size;have KK:FdK G n cA A code s (w.heap.size+1) wN (.slice (some ⟨na,0,none⟩) (2*G+2) cn):=⟨HCC.out.1,hn2,hs,HPS.out,hwN,(bc gVN HwV.out HKV.out.1),(bc gVN HwV.out HKV.out.2.1),(bc gVN HwV.out HKV.out.2.2),HR0.out.gr (HGV.out.1.trans gVN),na,_,hpn⟩
 have HGN:=Lib.hid (HGV.out.1.trans gVN);have HKK:=Lib.hid KK;have HF0:=Lib.hid (fd_start n code s.data.toList wN (Gr.refl wN));obtain ⟨wS,hwS⟩:∃wS,wS=(wN.alloc (.map #[] 0)).alloc (.cells #[.slice none 0 0, .map (some wN.heap.size)] 123):=⟨_,rfl⟩
 rw[<-hwS] at HF0;have HwS:=Lib.hid hwS;clear hwS gVN gN hpn hnn hzV b0 b1 HKV HwV HRP KK hwN;go_upto_region 8 with (fail)
 rw[<-HwS.out];have HF1:=Lib.hid (show FdS n code s.data.toList 0 wN (wN.heap.size+1) wS false (.slice none 0 0) from .inl ⟨rfl,rfl,HF0.out⟩);clear HwS hmm HF0;go_wp2;generalize w.heap.size+1=hw at *
 go_loopw [10,11,12,13] (λl f o i wr=>∃(p hl:Nat) (ob:Bool),p<=s.size+1/\i= .int .i64 p/\l= .pointer (some ⟨hl,0,none⟩)/\o= .bool ob/\FdS n code s.data.toList p wN hl wr ob f) (λ_ _ _ i _=>s.size+1-(intOf i).toNat)
 case atStart=>exact ⟨0,_,false,Nat.zero_le _,rfl,rfl,rfl,HF1.out⟩
 case round=>
  obtain ⟨p,hl,ob,hp1,rfl,rfl,rfl,hS⟩:=hrel;clear HF1;by_cases hpl:p<=s.size
  ·have hpi:(p:Int)<=(s.size:Int):=by omega
   rcases hS with ⟨rfl,rfl,hF⟩|⟨rfl,hF⟩
   ·have HAD:=Lib.hid (hF.adds_call HKK.out hpl);clear hF;go_upto_region 13 with (go_at_call 55;refine HAD.out.mono ?_;rintro e wX ⟨rfl,hA⟩)
    obtain ⟨A1,L1,c1,hL1,hlz,l0⟩:=hA.ways hn2;have HST:=Lib.hid (hA.step_call HKK.out hpl);clear hA HAD;have hL1i:(L1:Int)<=2000:=by omega
    by_cases hL0:L1=0
    ·have z0:((L1:Int)==0)=true:=by rw[hL0];rfl
     clear hL0;go_upto_region 15 with (go_at_call 56;refine HST.out.mono ?_;rintro e w2 ⟨pv,met,hl2,rfl,hS2⟩)
     have HS2:=Lib.hid hS2;clear hS2 HST;cases met
     ·go_wp2;go_roundw;case rel=>exact ⟨p+1,hl2,_,by omega,by go_num,rfl,rfl,HS2.out⟩
      case measure=>simp[intOf];omega
     ·go_wp2;go_roundw;case rel=>exact ⟨p+1,hl2,_,by omega,by go_num,rfl,rfl,HS2.out⟩
      case measure=>simp[intOf];omega
    ·have z0:((L1:Int)==0)=false:=beq_eq_false_iff_ne.2 (by omega);clear hL0;go_upto_region 15 with (go_at_call 56;refine HST.out.mono ?_;rintro e w2 ⟨pv,met,hl2,rfl,hS2⟩)
     have HS2:=Lib.hid hS2;clear hS2 HST;cases met
     ·go_wp2;go_roundw;case rel=>exact ⟨p+1,hl2,_,by omega,by go_num,rfl,rfl,HS2.out⟩
      case measure=>simp[intOf];omega
     ·go_wp2;go_roundw;case rel=>exact ⟨p+1,hl2,_,by omega,by go_num,rfl,rfl,HS2.out⟩
      case measure=>simp[intOf];omega
   ·obtain ⟨A1,L1,c1,hL1,hlz,l0⟩:=hF.ways hn2;have HST:=Lib.hid (hF.step_call HKK.out hpl);have hL1i:(L1:Int)<=2000:=by omega
    by_cases hL0:L1=0
    ·have z0:((L1:Int)==0)=true:=by rw[hL0];rfl
     have HC:=Lib.hid hF.1;obtain ⟨a,m,hP⟩:=hF.2.1;have HCL:=Lib.hid (hP.clone (Gr.refl wr));have HG:=Lib.hid (HGN.out.trans hF.gr);clear hL0 hF hP HST;go_wp2_with (go_at_call 57;refine HCL.out.mono ?_;rintro e w9 ⟨v9,rfl,g9⟩;have G9:=Lib.hid g9;clear g9);go_ret2;exact RetFp.of HC.out (HG.out.trans G9.out)
    ·have z0:((L1:Int)==0)=false:=beq_eq_false_iff_ne.2 (by omega);clear hL0 hF;go_upto_region 15 with (go_at_call 56;refine HST.out.mono ?_;rintro e w2 ⟨pv,met,hl2,rfl,hS2⟩)
     have HS2:=Lib.hid hS2;clear hS2 HST;cases met
     ·go_wp2;go_roundw;case rel=>exact ⟨p+1,hl2,_,by omega,by go_num,rfl,rfl,HS2.out⟩
      case measure=>simp[intOf];omega
     ·go_wp2;go_roundw;case rel=>exact ⟨p+1,hl2,_,by omega,by go_num,rfl,rfl,HS2.out⟩
      case measure=>simp[intOf];omega
  ·have hgt:¬(p:Int)<=(s.size:Int):=by omega
   have hpe:p=s.size+1:=by omega
   rcases hS with ⟨rfl,rfl,hF⟩|⟨rfl,hF⟩
   ·have HC:Hid (isC code s.data.toList=false):=Lib.hid (by
     obtain ⟨B,b0,v,W,Wn,S,nB,hL,hN, -⟩:=hF;refine isC_none ?_;rw[HCC.out.2,<-hpe];exact hN)
    have HCL:=Lib.hid (clone_nil wr);have HG:=Lib.hid (HGN.out.trans hF.gr);clear hF hpe;go_wp2_with (go_at_call 57;refine HCL.out.mono ?_;rintro e w9 ⟨v9,rfl,g9⟩;have G9:=Lib.hid g9;clear g9);go_ret2;exact RetFp.of HC.out (HG.out.trans G9.out)
   ·have HC:=Lib.hid hF.1;obtain ⟨a,m,hP⟩:=hF.2.1;have HCL:=Lib.hid (hP.clone (Gr.refl wr));have HG:=Lib.hid (HGN.out.trans hF.gr);clear hF hpe hP;go_wp2_with (go_at_call 57;refine HCL.out.mono ?_;rintro e w9 ⟨v9,rfl,g9⟩;have G9:=Lib.hid g9;clear g9);go_ret2;exact RetFp.of HC.out (HG.out.trans G9.out)
theorem pis_any (G n cA:Nat) (A:Option Addr) (code:List In) (s:ByteArray) (hn:n=code.length) (hn2:n<=2000) (hG:G<=1000) (hs:(s.size:Int)<=4096) (hps:∀v∈code,v.ps.length<=100000) (w:World) (hr:Ri w A code) :
  Calls Tryz.prog 22 #[.agg #[.int .i64 G, .slice A n cA], .string s] w λe w'=>e= .returned (.bool (isC code s.data.toList))/\Gr w w':=by
 have HF:=Lib.hid (λW hW=>pfind_any G n cA A code s hn hn2 hG hs hps W hW);have gV:Gr w (w.alloc (.cells #[.int .i64 G, .slice A n cA] 71)):=Gr.alloc (Gr.refl w) _;have HR:=Lib.hid (hr.gr gV);have GV:=Lib.hid gV;clear hr hn gV hps;go_enter Tryz.func22,Tryz.ntmps22;go_wp2_with (go_at_call 37;refine (HF.out _ HR.out).mono ?_;rintro e w2 ⟨v2,rfl,g2⟩;have G2:=Lib.hid g2;clear g2);go_ret;exact ⟨rfl,GV.out.trans G2.out⟩
end
mutual
def Pc.pk:Pc->Prop
 | .leaf _ ps=>ps.length<=600
 | .row l=>l.pk
 | .ways l=>l.pk
 | .group _ k=>k.pk
 | .rep _ _ k=>k.pk
def PcL.pk:PcL->Prop
 | .nil=>True
 | .cons p l=>p.pk/\l.pk
end
def PkI (l:List In):Prop:=∀v∈l,v.ps.length<=600
theorem PkI.app {l m:List In} (h:PkI l) (k:PkI m):PkI (l++m):=λv hv=>by
 rcases List.mem_append.1 hv with h1|h1
 ·exact h v h1
 ·exact k v h1
theorem PkI.cons {v:In} {m:List In} (h:v.ps.length<=600) (k:PkI m):PkI (v::m):=λu hu=>by
 rcases List.mem_cons.1 hu with h1|h1
 ·rw[h1];exact h
 ·exact k u h1
theorem PkI.nil:PkI []:=λv hv=>by cases hv
theorem splitI_pk (z:Bool) (a b:Nat):(splitI z a b).ps.length<=600:=by cases z<;>simp[splitI]
mutual
theorem Pc.lay_pk (p:Pc):∀at_,p.pk->PkI (p.lay at_):=by
 intro at_ h;match p,h with
 | .leaf op ps,h=>exact PkI.cons h PkI.nil
 | .row l,h=>exact PcL.layR_pk l at_ h
 | .ways l,h=>exact PcL.layW_pk l at_ _ h
 | .group g k,h=>
  simp only[Pc.lay];cases (g==0)
  ·simp only[cond_false];exact PkI.cons (by simp) ((Pc.lay_pk k _ h).app (PkI.cons (by simp) PkI.nil))
  ·simp only[cond_true];exact Pc.lay_pk k _ h
 | .rep op z k,h=>
  simp only[Pc.lay];cases (op==42)
  ·simp only[cond_false];cases (op==43)
   ·simp only[cond_false];exact PkI.cons (splitI_pk _ _ _) (Pc.lay_pk k _ h)
   ·simp only[cond_true];exact (Pc.lay_pk k _ h).app (PkI.cons (splitI_pk _ _ _) PkI.nil)
  ·simp only[cond_true];exact PkI.cons (splitI_pk _ _ _) ((Pc.lay_pk k _ h).app (PkI.cons (by simp) PkI.nil))
theorem PcL.layR_pk (l:PcL):∀at_,l.pk->PkI (l.layR at_):=by
 intro at_ h;match l,h with
 | .nil,_=>exact PkI.nil
 | .cons p l,h=>
  simp only[PcL.layR];exact (Pc.lay_pk p _ h.1).app (PcL.layR_pk l _ h.2)
theorem PcL.layW_pk (l:PcL):∀at_ e,l.pk->PkI (l.layW at_ e):=by
 intro at_ e h;match l,h with
 | .nil,_=>exact PkI.nil
 | .cons p .nil,h=>exact Pc.lay_pk p _ h.1
 | .cons p (.cons q l),h=>
  simp only[PcL.layW];exact PkI.cons (by simp) ((Pc.lay_pk p _ h.1).app (PkI.cons (by simp) (PcL.layW_pk (.cons q l) _ _ h.2)))
end
theorem pairsS_len (f:Bs):(pairsS f).length<=600:=by
 have:=pairsT_len f 256;unfold pairsS;omega
theorem failS_pk (s:Rs):(failS s).1.pk:=trivial
theorem setS_pk (s:Rs) (x:Option Bs×List UInt8):(setS s x).1.pk:=by
 obtain ⟨_|f,q⟩:=x
 ·exact failS_pk _
 ·exact pairsS_len f
section
variable {W:Rs->Pc×Rs} (hW:∀s,(W s).1.pk)
include hW
theorem groupS_pk (s:Rs):(groupS W s).1.pk:=by
 unfold groupS;cases Nat.ble 64 s.deep
 ·simp only[cond_false];cases ((W (openS {s with deep:=s.deep+1}).2).2.bad || !headIs 41 (W (openS {s with deep:=s.deep+1}).2).2.rest)
  ·exact hW _
  ·exact failS_pk _
 ·exact failS_pk _
theorem atomS_pk (s:Rs):(atomS W s).1.pk:=by
 unfold atomS;split
 ·exact failS_pk _
 ·rename_i c r hr;cases (c.toNat==40);rotate_left
  ·exact groupS_pk hW _
  cases (c.toNat==94);rotate_left
  ·exact Nat.zero_le _
  cases (c.toNat==36);rotate_left
  ·exact Nat.zero_le _
  cases (c.toNat==46);rotate_left
  ·exact pairsS_len _
  cases (c.toNat==91);rotate_left
  ·exact setS_pk _ _
  cases (c.toNat==92);rotate_left
  ·exact setS_pk _ _
  cases stopC c.toNat
  ·exact pairsS_len _
  ·exact failS_pk _
theorem pieceS_pk (s:Rs):(pieceS W s).1.pk:=by
 have h0:=atomS_pk hW s;unfold pieceS;generalize atomS W s=t at h0 ⊢;simp only;cases t.2.bad
 ·simp only[cond_false];split
  ·exact h0
  ·rename_i d q _;cases repC d.toNat
   ·exact h0
   ·exact h0
 ·exact h0
theorem rowS_pk (k:Nat):∀s,(rowS W k s).1.pk:=by
 induction k with
 | zero=>intro s;trivial
 | succ k ih=>
  intro s;unfold rowS;cases (s.bad||endR s.rest)
  ·exact ⟨pieceS_pk hW s,ih _⟩
  ·trivial
theorem altS_pk (k:Nat):∀s,(altS W k s).1.pk:=by
 induction k with
 | zero=>intro s;trivial
 | succ k ih=>
  intro s;unfold altS;simp only;cases (!(rowP W s).2.bad&&headIs 124 (rowP W s).2.rest)
  ·exact ⟨rowS_pk hW _ s,trivial⟩
  ·exact ⟨rowS_pk hW _ s,ih _⟩
end
theorem lone_pk {l:PcL} (h:l.pk):(lone l).pk:=by
 match l,h with
 | .nil,_=>trivial
 | .cons p .nil,h=>exact h.1
 | .cons p (.cons q m),h=>exact h
theorem waysS_pk (n:Nat):∀s,(waysS n s).1.pk:=by
 induction n with
 | zero=>intro s;exact failS_pk s
 | succ n ih=>intro s;exact lone_pk (altS_pk ih _ s)
theorem code_sizes {l:List UInt8} (h:l.length<=500):(codeY l).length<=2000/\grpX l<=1000/\∀v∈codeY l,v.ps.length<=100000:=by
 have h1:=(readS_sz h).1;have h2:=waysS_gd (l.length+1) ⟨l,0,0,false,false⟩;have h3:=waysS_pk (l.length+1) ⟨l,0,0,false,false⟩;have hg:=h2.g;simp only at hg;refine ⟨?_,?_,λv hv=>?_⟩
 ·unfold codeY;cases (errX l==0)
  ·simp
  ·simp only[cond_true,codeX,List.length_cons,List.length_append,Pc.lay_len,List.length_nil];omega
 ·unfold grpX;cases (errX l==0)
  ·simp
  ·simp only[cond_true,readS];omega
 ·have:PkI (codeY l):=by
   unfold codeY;cases (errX l==0)
   ·exact PkI.nil
   ·simp only[cond_true,codeX];exact PkI.cons (by simp) ((Pc.lay_pk _ _ h3).app (PkI.cons (by simp) (PkI.cons (by simp) PkI.nil)))
  have:=this v hv;omega
theorem info_way12:(Tryz.prog.info? 199).map (λi=>(i.zero,i.size,i.bytes))=some (some (.agg #[.int .i64 0, .int .i64 0, .slice none 0 0]),3,40):=by kernel_rfl
theorem info_int12:(Tryz.prog.info? 3).map (λi=>(i.zero,i.size,i.bytes))=some (some (.int .i64 0),1,8):=by kernel_rfl
theorem info_bool12:(Tryz.prog.info? 4).map (λi=>(i.zero,i.size,i.bytes))=some (some (.bool false),1,1):=by kernel_rfl
def RetWk (ok:Prop) (w:World) (e:Ending) (w':World):Prop:=∃v b,e= .returned (.tuple #[v, .bool b])/\(b=true↔ok)/\Gr w w'
def icl (l:List Int):List Value:=l.map λz=> .int .i64 z
def isT:Option Value->Bool
 | some (.bool b)=>b
 | _=>false
def unseenW (B1 N:Nat) (w:World):Nat:=((List.range N).filter λj=> !isT (w.cell? ⟨B1,j,none⟩)).length
def lenV:Value->Nat
 | .slice _ n _=>n
 | _=>0
theorem unseen_le (σ:Nat->Bool) (N:Nat):unseenN σ N<=N:=by
 unfold unseenN;exact Nat.le_trans (List.length_filter_le _ _) (by simp)
theorem unseen_first (N:Nat):1+2*unseenN (λ_=>false) N<=2*N+1:=by
 have:=unseen_le (λ_=>false) N;omega
theorem tl_le {T u N:Nat} (h:T+1+2*u<=2*N+1) (hN:N<=8194000):T<=16388000:=by omega
theorem own_capP {w:World} {base:Nat} {e:TypeId} {size n c g:Nat} {xs:List Value} (h:w.ownsRow base e size (.slice (some ⟨g,0,none⟩) n c) n xs):n<=c/\c<=maxLen:=by
 obtain ⟨h1,⟨hv,h0⟩|⟨g',cap,cur,hv,hb,hh,h2,h3,h4,h5⟩⟩:=h
 ·cases hv
 ·injection hv with _ _ hv3;subst hv3;exact ⟨h2,h3⟩
theorem idx_facts {k n L N p:Nat} (s:ByteArray) (hL:L=s.size) (hN:N=n*(L+1)) (hk:k<n) (hp:p<=s.size) (hNle:N<=8194000):∃M:Nat,M+p<N/\(M:Int)+(p:Int)<(N:Int)/\wrap64 ((k:Int)*((s.size:Int)+1))=(M:Int)/\Hid (((k:Int)).toNat*(s.data.toList.length+1)+p=M+p/\k*(s.data.toList.length+1)+p=M+p):=by
 have hl:s.data.toList.length=L:=by rw[hL];simp
 have h1:k*(L+1)+p<N:=by rw[hN];exact idx_lt (by rw[hL];exact hp) hk
 have e:(k:Int)*((s.size:Int)+1)=((k*(L+1):Nat):Int):=by rw[hL];simp
 refine ⟨k*(L+1),h1,?_,?_,Lib.hid ⟨by rw[hl,Int.toNat_natCast],by rw[hl]⟩⟩
 ·rw[<-Int.natCast_add];exact Int.ofNat_lt.2 h1
 ·rw[e];generalize k*(L+1)=M at *;exact IntWalk.wrap64_in (M:Int) (by omega)
theorem Svo.see {wr:World} {B1:Nat} {v s:Value} (h:Svo wr B1 v s) (m:Nat) (u:Value):Svo (wr.setCell ⟨B1,m,none⟩ u) B1 v s:=by
 obtain ⟨a,k,c,e,h0,hk,ha,h1,h2,hc⟩:=h;refine ⟨a,k,c,e,h0,hk,by simpa using ha,h1,h2,λj hj=>?_⟩;obtain ⟨z,hz⟩:=hc j hj;exact ⟨z,by rw[World.cell?_setCell_other wr ⟨B1,m,none⟩ ⟨a,j,none⟩ _ (by first|(simp;done)|(simp;omega))];exact hz⟩
theorem icl_one (zs:List Int):∀u∈icl zs,u.oneCell'=true:=by
 intro u hu;simp only[icl,List.mem_map] at hu;obtain ⟨z,_,rfl⟩:=hu;rfl
theorem Svo.rd {wr:World} {B1 a ms cs:Nat} {v:Value} (h:Svo wr B1 v (.slice (some ⟨a,0,none⟩) ms cs)):∃zs:List Int,zs.length=ms/\0<ms/\ms<=3000/\Rd wr 1 (some ⟨a,0,none⟩) ms (icl zs):=by
 obtain ⟨a',k,c,e,h0,hk,ha,h1,h2,hc⟩:=h;injection e with e1 e2 e3;injection e1 with e1;injection e1 with e1 e4 e5;subst e1 e2
 let f:Nat->Int:=λj=>if hj:j<ms then (hc j hj).choose else 0
 refine ⟨(List.range ms).map f,by simp,h0,hk,by simp[icl],λ_=>⟨⟨a,0,none⟩,rfl,ha,λj u hu=>?_⟩⟩;have e:(⟨a,0,none⟩:Addr).add j=⟨a,j,none⟩:=by
  unfold Addr.add;split
  ·rename_i h;subst h;rfl
  ·rw[Nat.zero_add]
 rw[e];have hj:j<ms:=by
  rcases Nat.lt_or_ge j ms with h|h
  ·exact h
  ·rw[List.getElem?_eq_none (by simp[icl];exact h)] at hu;cases hu
 have hu2:u= .int .i64 (hc j hj).choose:=by
  simp[icl,hj,f] at hu;exact hu.symm
 rw[hu2];exact (hc j hj).choose_spec
theorem PrM.unseen {w:World} {h G n cA B1 N:Nat} {A:Option Addr} {wr:World} {v:Value} {T:List Wy} {σ:Nat->Bool} (I:PrM w h G n cA B1 N A wr v T σ):unseenW B1 N wr=unseenN σ N:=by
 unfold unseenW unseenN
 congr 1
 apply List.filter_congr;intro j hj;rw[(I.seen j (List.mem_range.1 hj)).1];rfl
theorem top_cells {w:World} {g:Nat} {T0:List Wy} {x:Wy} (h:∀j u,(wyc (T0++[x]))[j]?=some u->w.cell? ⟨g,j,none⟩=some u) :
  w.cell? ⟨g,T0.length*3,none⟩=some (.int .i64 x.pc)/\w.cell? ⟨g,T0.length*3+1,none⟩=some (.int .i64 (x.at':Nat))/\w.cell? ⟨g,T0.length*3+2,none⟩=some x.sv:=by
 have hl:=wyc_length T0;have k:∀j,(wyc (T0++[x]))[T0.length*3+j]?=(wyc [x])[j]?:=λj=>by
  rw[wyc_append,List.getElem?_append_right (by omega)]
  congr 1
  omega
 exact ⟨h _ _ (k 0),h _ _ (k 1),h _ _ (k 2)⟩
theorem pr_start {w V wr W0:World} {G n cA B1 N i c1:Nat} {A A1:Option Addr} {arr:Array Value} (gV:Gr w V) (g:Gr V wr) (hz:w.heap.size<V.heap.size) (hB:B1=wr.heap.size) (hW:W0=(wr.alloc (.cells arr 4)).alloc (.cells #[.int .i64 0, .int .i64 i, .slice A1 (2*G+2) c1] 199))
  (c0:wr.cell? ⟨w.heap.size,0,none⟩=some (.int .i64 G)) (c1':wr.cell? ⟨w.heap.size,1,none⟩=some (.slice A n cA)) (ha:∀j,j<N->arr[j]?=some (.bool false)) (hG:G<=1000) (own:wr.ownsRow V.heap.size 3 1 (.slice A1 (2*G+2) c1) (2*G+2) (icl (List.replicate (2*G+2) (-1)))) :
  PrM w w.heap.size G n cA B1 N A W0 (.slice (some ⟨B1+1,0,none⟩) 1 1) [⟨0,i, .slice A1 (2*G+2) c1⟩] (λ_=>false):=by
 subst hB hW;have hwz:w.heap.size<wr.heap.size:=Nat.lt_of_lt_of_le hz g.size;have gg:Gr wr ((wr.alloc (.cells arr 4)).alloc (.cells #[.int .i64 0, .int .i64 i, .slice A1 (2*G+2) c1] 199)):=Gr.alloc (Gr.alloc (Gr.refl wr) _) _;refine ⟨(gV.trans g).trans gg,(bc gg hwz c0),(bc gg hwz c1'),λj hj=>?_,⟨hwz,by simp;omega⟩,?_,λx hx=>?_⟩
 ·have e1:((wr.alloc (.cells arr 4)).alloc (.cells #[.int .i64 0, .int .i64 i, .slice A1 (2*G+2) c1] 199)).heap[wr.heap.size]?=some (.cells arr 4 (0,0)):=by
   rw[heap_alloc_old _ _ (by simp)];exact heap_alloc_new wr _
  constructor
  ·exact (cell_of_row _ _ _ _ _ _ e1).trans (ha j hj)
  ·go_simp
 ·have:=World.ownsRow_lit (base:=wr.heap.size+1) (e:=199) (size:=3) (wr.alloc (.cells arr 4)) #[.int .i64 0, .int .i64 i, .slice A1 (2*G+2) c1] 1 (by simp) (by decide) rfl;simpa [wyc] using this
 ·rw[List.mem_singleton] at hx;subst hx;obtain ⟨a,e,hb,hlt,hc⟩:=own_blockU own (by omega);refine ⟨a,2*G+2,c1,by rw[e],by omega,by omega,Nat.lt_of_lt_of_le hlt gg.size,by omega,by simp[Value.ownBlock];omega,λj hj=>⟨-1,?_⟩⟩;rw[Below.cell gg (p:=⟨a,j,none⟩) hlt];exact hc j _ (by simp[icl,hj])
theorem i64_near {x:Int} (h0:0<=x) (h1:x<=1000000000):IntKind.i64.wrap x=x:=IntWalk.i64_in _ (by omega)
theorem near_of {x N:Int} (h:x<N) (h2:N<=8194000):x<=1000000000:=by omega
theorem set_oth {w:World} {B C:Nat} (h:B<C) (m o:Nat) (v:Value):(w.setCell ⟨B,m,none⟩ v).cell? ⟨C,o,none⟩=w.cell? ⟨C,o,none⟩:=
 World.cell?_setCell_other w ⟨B,m,none⟩ ⟨C,o,none⟩ v (by first|(simp;done)|(simp;omega))
theorem set_oth' {w:World} {B C:Nat} (h:C<B) (m o:Nat) (v:Value):(w.setCell ⟨B,m,none⟩ v).cell? ⟨C,o,none⟩=w.cell? ⟨C,o,none⟩:=
 World.cell?_setCell_other w ⟨B,m,none⟩ ⟨C,o,none⟩ v (by first|(simp;done)|(simp;omega))
theorem set_off {w:World} (B:Nat) {m o:Nat} (h:¬o=m) (v:Value):(w.setCell ⟨B,m,none⟩ v).cell? ⟨B,o,none⟩=w.cell? ⟨B,o,none⟩:=
 World.cell?_setCell_other w ⟨B,m,none⟩ ⟨B,o,none⟩ v (by first|(simp;done)|(simp;omega))
def RelPr (code:List In) (t:List UInt8) (i:Nat) (w:World) (h G n cA B1 N:Nat) (A:Option Addr) (v:Value) (wq:World):Prop:=
 ∃(T:List Wy) (σ:Nat->Bool),PrM w h G n cA B1 N A wq v T σ/\PrL code t i σ (T.map Wy.st)/\T.length+2*unseenN σ N<=2*N+1
theorem PrM.own_len {w:World} {h G n cA B1 N:Nat} {A:Option Addr} {wr:World} {v:Value} {T:List Wy} {σ:Nat->Bool} (I:PrM w h G n cA B1 N A wr v T σ):lenV v=T.length:=by
 obtain ⟨h1,⟨hv,h0⟩|⟨g',cap,cur,hv,_⟩⟩:=I.own
 ·rw[hv,h0];rfl
 ·rw[hv];rfl
theorem PrM.fin {code:List In} {t:List UInt8} {i:Nat} {w:World} {h G n cA B1 N:Nat} {A:Option Addr} {wr w2:World} {v9:Value} {T':List Wy} {T m:Nat} {σ σ':Nat->Bool} (I:PrM w h G n cA B1 N A w2 v9 T' σ') (J:PrL code t i σ' (T'.map Wy.st))
  (hlen:T+1+2*unseenN σ N<=2*N+1) (hUV:unseenN σ' N+1=unseenN σ N) (hmeas:unseenW B1 N wr=unseenN σ N) (hT:T'.length=T+m) (hm:m<=2) :
  RelPr code t i w h G n cA B1 N A v9 w2/\3*unseenW B1 N w2+lenV v9<3*unseenW B1 N wr+(T+1):=by
 refine ⟨⟨T',σ',I,J,by omega⟩,?_⟩;rw[I.unseen,hmeas,I.own_len];omega
theorem PrM.fin0 {code:List In} {t:List UInt8} {i:Nat} {w:World} {h G n cA B1 N:Nat} {A:Option Addr} {wr w2:World} {g c:Nat} {T0:List Wy} {σ:Nat->Bool} (I:PrM w h G n cA B1 N A w2 (.slice (some ⟨g,0,none⟩) T0.length c) T0 σ) (J:PrL code t i σ (T0.map Wy.st))
  (hlen:T0.length+1+2*unseenN σ N<=2*N+1) (hmeas:unseenW B1 N wr=unseenN σ N) :
  RelPr code t i w h G n cA B1 N A (.slice (some ⟨g,0,none⟩) T0.length c) w2/\3*unseenW B1 N w2+T0.length<3*unseenW B1 N wr+(T0.length+1):=by
 refine ⟨⟨T0,σ,I,J,by omega⟩,?_⟩;rw[I.unseen,hmeas];omega
def frW (c u:Nat->Value) (s:ByteArray) (h:Nat) (v:Value) (Bw Bq:Nat) (op:Int):Array Value:= #[c 0, .string s,c 2, .pointer (some ⟨h,0,none⟩),c 4,c 5,c 6,c 7,c 8,c 9,c 10,v, .pointer (some ⟨Bw,0,none⟩), .pointer (some ⟨Bq,0,none⟩),u 14,c 15,c 16,c 17,c 18,c 19,c 20,c 21,c 22,c 23,c 24,c 25,c 26,c 27,c 28,c 29,c 30,c 31,c 32,c 33,c 34,c 35,c 36,c 37,c 38,c 39,c 40,c 41,c 42,c 43,c 44,c 45,c 46,c 47,c 48,c 49,c 50,c 51,c 52,c 53,c 54,c 55,c 56,c 57,c 58,c 59,c 60,c 61,c 62,c 63,c 64,c 65,c 66,c 67,c 68,c 69,c 70,c 71,c 72,c 73,c 74,c 75,c 76,c 77,c 78,c 79,c 80,c 81,c 82,c 83,c 84,c 85,c 86,c 87,c 88,c 89,c 90,c 91,c 92,c 93,c 94, .int .i64 op,u 96,u 97,u 98,u 99,u 100,u 101,u 102,u 103,u 104,u 105,u 106,u 107,u 108,u 109,u 110,u 111,u 112,u 113,u 114,u 115,u 116,u 117,u 118,u 119,u 120,u 121,u 122,u 123,u 124,u 125,u 126,u 127,u 128,u 129,u 130,u 131,u 132,u 133,u 134,u 135,u 136,u 137,u 138,u 139,u 140,u 141,u 142,u 143,u 144,u 145,u 146,u 147,u 148,u 149,u 150,u 151,u 152,u 153,u 154,u 155,u 156,u 157,u 158,u 159,u 160,u 161,u 162,u 163,u 164,u 165,u 166,u 167,u 168,u 169,u 170,u 171,u 172,u 173,u 174,u 175,u 176,u 177,u 178,u 179,u 180,u 181,u 182,u 183,u 184,u 185,u 186,u 187,u 188,u 189,u 190,u 191,u 192,u 193,u 194,u 195,u 196,u 197,u 198,u 199,u 200,u 201,u 202,u 203,u 204,u 205,u 206,u 207,u 208,u 209,u 210,u 211,u 212,u 213,u 214,u 215,u 216,u 217,u 218,u 219,u 220,u 221,u 222,u 223,u 224]
def nth:List Value->Nat->Value
 | [],_=> .bool false
 | a::_,0=>a
 | _::l,n+1=>nth l n
def putW (c:Nat->Value) (v:Value) (n:Nat):Value:=if n=6 then v else if n=7 then .bool true else c n
theorem useW {cd:Code} {Q:Exit->Act->World->Prop} {W:World} {t:Array Value} {c:Nat->Value} {s:ByteArray} {h:Nat} {v:Value} {Bw Bq:Nat} {op:Int} (e:t=frW c (nth t.toList) s h v Bw Bq op) (k:cd.wp Tryz.prog Q ⟨frW c (nth t.toList) s h v Bw Bq op,[]⟩ W):cd.wp Tryz.prog Q ⟨t,[]⟩ W:=
 cast (congrArg (λz=>cd.wp Tryz.prog Q ⟨z,[]⟩ W) e.symm) k
theorem useC {cd:Code} {Q:Exit->Act->World->Prop} {W:World} {t:Array Value} {s:ByteArray} {h:Nat} {v:Value} {Bw Bq:Nat} {op:Int} (e:t=frW (nth t.toList) (nth t.toList) s h v Bw Bq op) (k:cd.wp Tryz.prog Q ⟨frW (nth t.toList) (nth t.toList) s h v Bw Bq op,[]⟩ W):cd.wp Tryz.prog Q ⟨t,[]⟩ W:=
 cast (congrArg (λz=>cd.wp Tryz.prog Q ⟨z,[]⟩ W) e.symm) k
structure ArmH (G n cA B1 N k p ms cs a g cv Bw Bq M i:Nat) (A:Option Addr) (code:List In) (s:ByteArray) (w wr wC:World) (op x y:Int) (ps:List UInt8) (σ:Nat->Bool) (T0:List Wy) (Q:Exit->Act->World->Prop) (c:Nat->Value):Prop where
 HK:Hid (k<code.length)
 HVV:Hid (code[k]'HK.out=⟨op,x,y,ps⟩)
 HPS:Hid (∀v∈code,v.ps.length<=100000)
 HVis:Hid (∀T':List (Int×Nat),(code[k]'HK.out).op≠7->succS code s.data.toList k p=T'->PrL code s.data.toList i (λj=>j==M+p||σ j) (T0.map Wy.st++T'))
 HFND:Hid ((code[k]'HK.out).op=7->AccS code s.data.toList (· = i))
 Hlen:Hid (T0.length+1+2*unseenN σ N<=2*N+1)
 HUV:Hid (unseenN (λj=>j==M+p||σ j) N+1=unseenN σ N)
 Hmeas:Hid (unseenW B1 N wr=unseenN σ N)
 HIC:Hid (PrM w w.heap.size G n cA B1 N A wC (.slice (some ⟨g,0,none⟩) T0.length cv) T0 (λj=>j==M+p||σ j))
 HSV4:Hid (Svo wC B1 (.slice (some ⟨g,0,none⟩) T0.length cv) (.slice (some ⟨a,0,none⟩) ms cs))
 e0:wC.cell? ⟨Bw,0,none⟩=some (.int .i64 k)
 e1:wC.cell? ⟨Bw,1,none⟩=some (.int .i64 p)
 e2:wC.cell? ⟨Bw,2,none⟩=some (.slice (some ⟨a,0,none⟩) ms cs)
 q0:wC.cell? ⟨Bq,0,none⟩=some (.int .i64 op)
 q1:wC.cell? ⟨Bq,1,none⟩=some (.int .i64 x)
 q2:wC.cell? ⟨Bq,2,none⟩=some (.int .i64 y)
 q3:wC.cell? ⟨Bq,3,none⟩=some (.string ⟨ps.toArray⟩)
 hwC:Bw<wC.heap.size
 hqC:Bq<wC.heap.size
 hBw:B1<Bw
 hgw:g<Bw
 hTi:(T0.length:Int)<=16388000
 hcvi:(T0.length:Int)+1<=(cv:Int)
 hcvm:(cv:Int)<=9223372036854775807
 hpi:(p:Int)<=(s.size:Int)
 hp:p<=s.size
 hs:(s.size:Int)<=4096
 hkn:(k:Int)<2000
 HQ:Hid (∀(v:Value) (w2:World),RelPr code s.data.toList i w w.heap.size G n cA B1 N A v w2->3*unseenW B1 N w2+lenV v<3*unseenW B1 N wr+(T0.length+1)->∀t:Array Value,t=frW c (nth t.toList) s w.heap.size v Bw Bq op->Q .normal ⟨t,[]⟩ w2)
 HR:Hid (op=7->∀t:Array Value,t=frW (putW c (.slice (some ⟨a,0,none⟩) ms cs)) (nth t.toList) s w.heap.size (.slice (some ⟨g,0,none⟩) T0.length cv) Bw Bq op->Q .ret ⟨t,[]⟩ wC)
def condOf (n:Nat):Code->Option Code
 | .cond (.tmp k) a b=>if k=n then some (.cond (.tmp k) a b) else match condOf n a with
  | some c=>some c
  | none=>condOf n b
 | .seq a b=>match condOf n a with
  | some c=>some c
  | none=>condOf n b
 | .block _ c=>condOf n c
 | .loop c=>condOf n c
 | .scope c=>condOf n c
 | _=>none
noncomputable def condR (n:Nat):Code:=(((Tryz.f103).body.bind (condOf n)).getD .skip)
end Go.Proofs.YtjapddfnpmlifaaGreatDoor
