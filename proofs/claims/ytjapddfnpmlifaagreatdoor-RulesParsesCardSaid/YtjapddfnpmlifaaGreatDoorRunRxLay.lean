import Derived.Test.YtjapddfnpmlifaaGreatDoorRunRxGood
import Derived.Test.YtjapddfnpmlifaaGreatDoorRunRxGroup
import Derived.Test.YtjapddfnpmlifaaGreatDoorRunFxBase
set_option linter.all false
set_option maxRecDepth 1000000
set_option maxHeartbeats 12800000
namespace Go.Proofs.YtjapddfnpmlifaaGreatDoor
open Go.RowKit
mutual
theorem Pc.lay_len:∀(p:Pc) (a:Nat),(p.lay a).length=p.sz
 | .leaf op ps,a=>rfl
 | .row l,a=>by simp only[Pc.lay,Pc.sz];exact PcL.layR_len l a
 | .ways l,a=>by simp only[Pc.lay,Pc.sz];exact PcL.layW_len l a _
 | .group g k,a=>by
  simp only[Pc.lay,Pc.sz];cases (g==0)
  ·simp[Pc.lay_len k (a+1)]
  ·simp[Pc.lay_len k a]
 | .rep op z k,a=>by
  simp only[Pc.lay,Pc.sz];cases (op==42)
  ·cases (op==43)
   ·simp[Pc.lay_len k (a+1)]
   ·simp[Pc.lay_len k a]
  ·simp[Pc.lay_len k (a+1)]
theorem PcL.layR_len:∀(l:PcL) (a:Nat),(l.layR a).length=l.szR
 | .nil,a=>rfl
 | .cons p l,a=>by simp only[PcL.layR,PcL.szR,List.length_append,Pc.lay_len p,PcL.layR_len l]
theorem PcL.layW_len:∀(l:PcL) (a e:Nat),(l.layW a e).length=l.szW
 | .nil,a,e=>rfl
 | .cons p .nil,a,e=>by simp only[PcL.layW,PcL.szW];exact Pc.lay_len p a
 | .cons p (.cons q l),a,e=>by
  simp only[PcL.layW,PcL.szW,List.length_append,List.length_cons,Pc.lay_len p,PcL.layW_len (.cons q l)];omega
end
def PcL.js:PcL->Nat->List Nat
 | .nil,_=>[]
 | .cons _ .nil,_=>[]
 | .cons p (.cons q l),a=>(a+p.sz+1)::(PcL.cons q l).js (a+p.sz+2)
def putX (e:Nat) (c:List In) (j:Nat):List In:=c.modify j λv=>⟨v.op,e,v.y,v.ps⟩
theorem putX_len (e:Nat) (c:List In) (j:Nat):(putX e c j).length=c.length:=by simp[putX]
theorem modify_mid (f:In->In) (pre:List In) (v:In) (post:List In):(pre++v::post).modify pre.length f=pre++f v::post:=by
 induction pre with
 | nil=>rfl
 | cons a l ih=>simp[List.modify_succ_cons,ih]
theorem putX_mid (e:Nat) (pre:List In) (v:In) (post:List In):putX e (pre++v::post) pre.length=pre++⟨v.op,e,v.y,v.ps⟩::post:=modify_mid _ _ _ _
theorem fold_layW (e:Nat):∀(l:PcL) (pre:List In) (a:Nat),pre.length=a->(l.js a).foldl (putX e) (pre++l.layW a 0)=pre++l.layW a e
 | .nil,pre,a,h=>rfl
 | .cons p .nil,pre,a,h=>rfl
 | .cons p (.cons q l),pre,a,h=>by
  simp only[PcL.js,PcL.layW,List.foldl_cons];have e1:pre++(⟨2,a+1,a+p.sz+2,[]⟩:In)::(p.lay (a+1)++(⟨3,(0:Nat),0,[]⟩:In)::(PcL.cons q l).layW (a+p.sz+2) 0)=(pre++(⟨2,a+1,a+p.sz+2,[]⟩:In)::p.lay (a+1))++(⟨3,(0:Nat),0,[]⟩:In)::(PcL.cons q l).layW (a+p.sz+2) 0:=by simp
  have e2:a+p.sz+1=(pre++(⟨2,a+1,a+p.sz+2,[]⟩:In)::p.lay (a+1)).length:=by simp[h,Pc.lay_len];omega
  rw[e1]
  conv=>lhs;rw[e2]
  rw[putX_mid];have e3:(pre++(⟨2,a+1,a+p.sz+2,[]⟩:In)::p.lay (a+1))++(⟨3,e,0,[]⟩:In)::(PcL.cons q l).layW (a+p.sz+2) 0=((pre++(⟨2,a+1,a+p.sz+2,[]⟩:In)::p.lay (a+1))++[(⟨3,e,0,[]⟩:In)])++(PcL.cons q l).layW (a+p.sz+2) 0:=by simp
  rw[e3];have:=fold_layW e (.cons q l) ((pre++(⟨2,a+1,a+p.sz+2,[]⟩:In)::p.lay (a+1))++[(⟨3,e,0,[]⟩:In)]) (a+p.sz+2) (by simp[h,Pc.lay_len];omega);rw[this];simp
theorem PcL.js_lt:∀(l:PcL) (a:Nat) (j:Nat),j∈l.js a->a<=j/\j<a+l.szW
 | .nil,a,j,h=>by simp[PcL.js] at h
 | .cons p .nil,a,j,h=>by simp[PcL.js] at h
 | .cons p (.cons q l),a,j,h=>by
  simp only[PcL.js,List.mem_cons] at h;simp only[PcL.szW];rcases h with h|h
  ·omega
  ·have:=PcL.js_lt (.cons q l) _ j h;omega
def PcL.len:PcL->Nat
 | .nil=>0
 | .cons _ l=>l.len+1
mutual
def Pc.ok:Pc->Prop
 | .leaf op _=>op=1\/op=5\/op=6
 | .row l=>l.len<=6000/\l.ok
 | .ways l=>(∃p m,l= .cons p m)/\l.len<=6000/\l.ok
 | .group g k=>g<=5000/\k.ok
 | .rep op _ k=>(op=42\/op=43\/op=63)/\k.ok
def PcL.ok:PcL->Prop
 | .nil=>True
 | .cons p l=>p.ok/\l.ok
end
theorem PcL.szW_cons (p:Pc) (l:PcL):(PcL.cons p l).szW<=p.sz+2+l.szW:=by
 cases l with
 | nil=>simp[PcL.szW]
 | cons q l=>simp[PcL.szW]
theorem lone_sz (l:PcL):(lone l).sz=l.szW:=by
 match l with
 | .nil=>rfl
 | .cons p .nil=>rfl
 | .cons p (.cons q l)=>rfl
theorem lone_ok {l:PcL} (hn:∃p m,l= .cons p m) (hl:l.len<=6000) (h:l.ok):(lone l).ok:=by
 match l with
 | .nil=>obtain ⟨p,m,e⟩:=hn;cases e
 | .cons p .nil=>exact h.1
 | .cons p (.cons q l)=>exact ⟨⟨_,_,rfl⟩,hl,h⟩
theorem altS_ne (W:Rs->Pc×Rs) (k:Nat) (s:Rs):∃p m,(altS W (k+1) s).1= .cons p m:=by
 unfold altS;simp only;cases (!(rowP W s).2.bad&&headIs 124 (rowP W s).2.rest)
 ·exact ⟨_,_,rfl⟩
 ·exact ⟨_,_,rfl⟩
def Sz (n:Nat) (x:Pc×Rs):Prop:=x.1.sz+2*x.2.rest.length<=2*n/\x.1.ok
theorem rowS_len (W:Rs->Pc×Rs) (k:Nat):∀s,(rowS W k s).1.len<=k:=by
 induction k with
 | zero=>intro s;exact Nat.le_refl _
 | succ k ih=>
  intro s;unfold rowS;cases (s.bad||endR s.rest)
  ·simp only[cond_false,PcL.len];exact Nat.succ_le_succ (ih _)
  ·simp[PcL.len]
theorem altS_len (W:Rs->Pc×Rs) (k:Nat):∀s,(altS W k s).1.len<=k:=by
 induction k with
 | zero=>intro s;exact Nat.le_refl _
 | succ k ih=>
  intro s;unfold altS;simp only;cases (!(rowP W s).2.bad&&headIs 124 (rowP W s).2.rest)
  ·simp[PcL.len]
  ·simp only[cond_true,PcL.len];exact Nat.succ_le_succ (ih _)
theorem Sz.fail {n:Nat} {s:Rs} (h:s.rest.length<=n):Sz n (failS s):=⟨by simp only[failS,Pc.sz,PcL.szR];omega,by simp[failS,Pc.ok,PcL.ok,PcL.len]⟩
theorem headIs_consL {c:Nat} {l:List UInt8} (h:headIs c l=true):∃x r,l=x::r/\x.toNat=c:=by
 cases l with
 | nil=>simp[headIs] at h
 | cons x r=>exact ⟨x,r,rfl,by simpa [headIs] using h⟩
section
variable {W:Rs->Pc×Rs} (hW:∀s,Gd 0 s (W s).2) (hZ:∀s,BdX s->Sz s.rest.length (W s))
include hW hZ
theorem groupS_sz (s:Rs) (hb:s.groups+s.rest.length<5000) (hd:s.deep+s.rest.length<5000):Sz (s.rest.length+1) (groupS W s):=by
 unfold groupS;cases Nat.ble 64 s.deep;rotate_left
 ·exact Sz.fail (by simp)
 simp only[cond_false];obtain ⟨o1,o2,o3,o4⟩:=openS_gd {s with deep:=s.deep+1};have og:(openS {s with deep:=s.deep+1}).1<=5000:=by
  unfold openS;cases (headIs 63 {s with deep:=s.deep+1}.rest&&headIs 58 ({s with deep:=s.deep+1}.rest.drop 1))
  ·simp;omega
  ·simp
 simp only at o1 o2 o3 o4;generalize openS {s with deep:=s.deep+1}=o at *;have hz:=hZ o.2 ⟨by omega,by omega⟩;have hg:=hW o.2;generalize W o.2=t at *;cases hc:(t.2.bad || !headIs 41 t.2.rest);rotate_left
 ·exact Sz.fail (by have:=hg.r;simp;omega)
 simp only[cond_false];have hh:headIs 41 t.2.rest=true:=by cases e:headIs 41 t.2.rest with|true=>rfl|false=>rw[e] at hc;simp at hc
 obtain ⟨x,r,hr,_⟩:=headIs_consL hh;have hz1:=hz.1;have hr':t.2.rest.length=r.length+1:=by rw[hr];rfl
 refine ⟨?_,og,hz.2⟩;simp only[Pc.sz,hr,List.drop_succ_cons,List.drop_zero];cases (o.1==0)<;>(simp only[cond_true,cond_false];omega)
theorem atomS_sz {s:Rs} {c:UInt8} {r:List UInt8} (h:s.rest=c::r) (hb:BdX s):Sz s.rest.length (atomS W s):=by
 have hl:s.rest.length=r.length+1:=by rw[h];rfl
 have hx:∀x:Option Bs×List UInt8,x.2.length<=r.length->Sz s.rest.length (setS s x):=λx hx=>by
  obtain ⟨_|f,q⟩:=x
  ·exact Sz.fail (by simp only at hx ⊢;omega)
  ·refine ⟨?_,?_⟩
   ·simp only[setS,Pc.sz] at hx ⊢;omega
   ·simp[setS,Pc.ok]
 have hlf:∀op ps,(op=1\/op=5\/op=6)->Sz s.rest.length (.leaf op ps,{s with rest:=r}):=λop ps ho=>⟨by simp only[Pc.sz];omega,by simpa [Pc.ok] using ho⟩
 have hb1:=hb.1;have hb2:=hb.2;unfold atomS;rw[h];simp only;cases (c.toNat==40);rotate_left
 ·simp only[cond_true];have:=groupS_sz hW hZ {s with rest:=r} (by simp only;omega) (by simp only;omega)
  rwa [show s.rest.length=r.length+1 from hl] at *
 cases (c.toNat==94);rotate_left
 ·rw[<-h];exact hlf 5 _ (by omega)
 cases (c.toNat==36);rotate_left
 ·rw[<-h];exact hlf 6 _ (by omega)
 cases (c.toNat==46);rotate_left
 ·rw[<-h];exact hlf 1 _ (by omega)
 cases (c.toNat==91);rotate_left
 ·rw[<-h];exact hx _ (classS_len r)
 cases (c.toNat==92);rotate_left
 ·rw[<-h];exact hx _ (escS_len r)
 cases stopC c.toNat
 ·rw[<-h];exact hlf 1 _ (by omega)
 ·rw[<-h];exact Sz.fail (by simp only;omega)
theorem pieceS_sz {s:Rs} {c:UInt8} {r:List UInt8} (h:s.rest=c::r) (hb:BdX s):Sz s.rest.length (pieceS W s):=by
 have h0:=atomS_sz hW hZ h hb;unfold pieceS;generalize atomS W s=t at h0 ⊢;simp only;cases hb:t.2.bad;rotate_left
 ·exact h0
 simp only[cond_false];match e:t.2.rest with
 | []=>exact h0
 | d::q=>
  simp only;cases hr:repC d.toNat
  ·exact h0
  ·simp only[cond_true];have h1:(bif headIs 63 q then q.drop 1 else q).length<=q.length:=by cases headIs 63 q<;>simp
   have h2:t.2.rest.length=q.length+1:=by rw[e];rfl
   have h3:=h0.1;refine ⟨?_,?_,h0.2⟩
   ·simp only[Pc.sz];generalize (bif headIs 63 q then q.drop 1 else q)=q2 at h1 ⊢;cases (d.toNat==42)<;>(simp only[cond_true,cond_false];omega)
   ·simp only[repC,Bool.or_eq_true,beq_iff_eq] at hr;omega
theorem rowS_sz (k:Nat):∀s:Rs,BdX s->(rowS W k s).1.szR+2*(rowS W k s).2.rest.length<=2*s.rest.length/\(rowS W k s).1.ok:=by
 induction k with
 | zero=>intro s _;exact ⟨by simp[rowS,PcL.szR],by simp[rowS,PcL.ok]⟩
 | succ k ih=>
  intro s hB;unfold rowS;cases hb:(s.bad||endR s.rest)
  ·simp only[cond_false];obtain ⟨c,r,hr⟩:∃c r,s.rest=c::r:=by
    match e:s.rest with
    | []=>rw[e] at hb;simp[endR] at hb
    | c::r=>exact ⟨c,r,rfl⟩
   have h1:=pieceS_sz hW hZ hr hB;have h2:=(pieceS_gd hW hr).1;generalize pieceS W s=t at *;have h3:=ih t.2 (h2.bd hB);have h4:=h1.1;exact ⟨by simp only[PcL.szR];omega,h1.2,h3.2⟩
  ·exact ⟨by simp[PcL.szR],by simp[PcL.ok]⟩
theorem altS_sz (k:Nat):∀s:Rs,BdX s->(altS W k s).1.szW+2*(altS W k s).2.rest.length<=2*s.rest.length/\(altS W k s).1.ok:=by
 induction k with
 | zero=>intro s _;exact ⟨by simp[altS,PcL.szW],by simp[altS,PcL.ok]⟩
 | succ k ih=>
  intro s hB;unfold altS;have h0:Gd 0 s (rowP W s).2:=rowS_gd hW _ s;have h1:Sz s.rest.length (rowP W s):=by
   have:=rowS_sz hW hZ (s.rest.length+1) s hB;exact ⟨by simpa only[rowP,Pc.sz] using this.1,by simp only[rowP,Pc.ok];exact ⟨by have:=rowS_len W (s.rest.length+1) s;have:=hB.1;omega,this.2⟩⟩
  generalize rowP W s=t at h0 h1 ⊢;simp only;have h4:=h1.1;cases hb:(!t.2.bad&&headIs 124 t.2.rest)
  ·simp only[cond_false];exact ⟨by simp only[PcL.szW];omega,h1.2,by simp[PcL.ok]⟩
  ·simp only[cond_true];have hh:headIs 124 t.2.rest=true:=by cases e:headIs 124 t.2.rest with|true=>rfl|false=>rw[e] at hb;simp at hb
   obtain ⟨x,r,hr,_⟩:=headIs_consL hh;have hl:t.2.rest.length=r.length+1:=by rw[hr];rfl
   have hd:(t.2.rest.drop 1).length=r.length:=by rw[hr];rfl
   have h3:=ih {t.2 with rest:=t.2.rest.drop 1} ((h0.trans (Gd.rest (r:=t.2.rest.drop 1) (by simp))).bd hB);simp only at h3;rw[hd] at h3;have h5:=PcL.szW_cons t.1 (altS W k ⟨t.2.rest.drop 1,t.2.groups,t.2.deep,t.2.bad,t.2.over⟩).1;exact ⟨by omega,h1.2,h3.2⟩
end
theorem waysS_sz (n:Nat):∀s:Rs,BdX s->Sz s.rest.length (waysS n s):=by
 induction n with
 | zero=>intro s _;exact Sz.fail (Nat.le_refl _)
 | succ n ih=>
  intro s hB;have:=altS_sz (waysS_gd n) ih (s.rest.length+1) s hB;exact ⟨by simp only[waysS,lone_sz];exact this.1,lone_ok (altS_ne _ _ _) (by have:=altS_len (waysS n) (s.rest.length+1) s;have:=hB.1;omega) this.2⟩
theorem readS_sz {s:List UInt8} (h:s.length<=500):(readS s).1.sz<=1000/\(readS s).1.ok:=by
 have:=waysS_sz (s.length+1) ⟨s,0,0,false,false⟩ ⟨by simp only;omega,by simp only;omega⟩;have h1:=this.1;simp only at h1;exact ⟨by unfold readS;omega,this.2⟩
theorem info_inst:(Tryz.prog.info? 163).map (λi=>(i.zero,i.size,i.bytes))=some (some (.agg #[.int .i64 0, .int .i64 0, .int .i64 0, .string ⟨#[]⟩]),4,40):=by kernel_rfl
def WrtA (w:World) (B:Nat) (A:Option Addr) (code:List In):Prop:=
 ∃c,w.cell? ⟨B,0,none⟩=some (.slice A code.length c)/\w.frozen? ⟨B,0,none⟩=false/\w.ownsRow (B+1) 163 4 (.slice A code.length c) code.length (icells code)/\B<w.heap.size
def blk (A:Option Addr):Option Nat:=A.map (·.block)
structure WX (B:Nat) (w:World) (g:Option Nat) (w':World) (g':Option Nat):Prop where
 os:w'.os=w.os
 tape:w'.tape=w.tape
 output:w'.output=w.output
 size:w.heap.size<=w'.heap.size
 block:∀k,k<w.heap.size->k≠B->g≠some k->w'.heap[k]?=w.heap[k]?
 row:∀k,g'=some k->g=some k\/w.heap.size<=k
theorem WX.refl (B:Nat) (w:World) (g:Option Nat):WX B w g w g:=⟨rfl,rfl,rfl,Nat.le_refl _,λ_ _ _ _=>rfl,λ_ h=> .inl h⟩
theorem WX.trans {B:Nat} {w w1 w2:World} {g g1 g2:Option Nat} (h:WX B w g w1 g1) (k:WX B w1 g1 w2 g2):WX B w g w2 g2:=by
 refine ⟨k.os.trans h.os,k.tape.trans h.tape,k.output.trans h.output,Nat.le_trans h.size k.size,λi hi hn hg=>?_,λi hi=>?_⟩
 ·refine (k.block i (Nat.lt_of_lt_of_le hi h.size) hn λe=>?_).trans (h.block i hi hn hg);rcases h.row i e with e|e
  ·exact hg e
  ·omega
 ·rcases k.row i hi with e|e
  ·exact h.row i e
  ·exact .inr (Nat.le_trans h.size e)
theorem WX.gr {B:Nat} {w w':World} (g:Option Nat) (h:Gr w w'):WX B w g w' g:=⟨h.os,h.tape,h.output,h.size,λk hk _ _=>Below.block h k hk,λ_ h=> .inl h⟩
theorem WX.set {B:Nat} {w w':World} {g g':Option Nat} (h:WX B w g w' g') {p:Addr} (hp:p.block=B\/g'=some p.block) (u:Value):WX B w g (w'.setCell p u) g':=by
 refine ⟨h.os,h.tape,h.output,Nat.le_trans h.size (by simp),λk hk hn hg=>?_,h.row⟩;refine (heap_setCell_other w' p k u λe=>?_).trans (h.block k hk hn hg);rcases hp with e2|e2
 ·omega
 ·rcases h.row _ e2 with e3|e3
  ·exact hg (e▸e3)
  ·omega
theorem WX.grown {B:Nat} {w w':World} {g g':Option Nat} (h:w.grownBy w' g) (hg:g'=g\/g'=some w.heap.size):WX B w g w' g':=
 ⟨h.os,h.tape,h.output,h.size,λk hk _ hn=>h.block k hk (λe=>hn e.symm),λk hk=>by
  rcases hg with e|e
  ·exact .inl (e▸hk)
  ·rw[e] at hk;injection hk with hk;exact .inr (Nat.le_of_eq hk)⟩
theorem WX.same {B lo hi:Nat} {w w':World} {g g':Option Nat} (h:WX B w g w' g') (hB:hi<=B) (hg:∀k,g=some k->B<=k) (hs:B<w.heap.size):Same lo hi w w':=
 ⟨Nat.le_trans hB (Nat.le_trans (Nat.le_of_lt hs) h.size),λk h0 h1=>h.block k (by omega) (by omega) λe=>by have:=hg k e;omega⟩
theorem WX.below {B:Nat} {w w':World} {g g':Option Nat} (h:WX B w g w' g') (hg:∀k,g=some k->B<=k) (hs:B<w.heap.size):Below B w w':=
 ⟨h.os,h.tape,h.output,h.size,λk hk=>h.block k (by omega) (by omega) λe=>by have:=hg k e;omega⟩
section
variable {w w':World} {B:Nat} {A:Option Addr} {code:List In}
theorem WrtA.lt (h:WrtA w B A code):B<w.heap.size:=h.choose_spec.2.2.2
theorem WrtA.row (h:WrtA w B A code):∀k,blk A=some k->B<k/\k<w.heap.size:=by
 obtain ⟨c,h1,h2,h3,h4⟩:=h;intro k hk;have:=h3.lt k (by
  cases A with
  | none=>cases hk
  | some a=>exact hk)
 omega
theorem WrtA.kept (h:WrtA w B A code) (hs:w.heap.size<=w'.heap.size) (hb:w'.heap[B]?=w.heap[B]?) (hk:∀k,blk A=some k->w'.heap[k]?=w.heap[k]?):WrtA w' B A code:=by
 obtain ⟨c,h1,h2,h3,h4⟩:=h;refine ⟨c,(World.cell?_of_block (a:=⟨B,0,none⟩) hb).trans h1,(World.frozen?_of_block (a:=⟨B,0,none⟩) hb).trans h2,?_,Nat.lt_of_lt_of_le h4 hs⟩;obtain ⟨k1,⟨hv,k2⟩|⟨g,cap,cur,hv,hb',hh,k2⟩⟩:=h3
 ·exact ⟨k1, .inl ⟨hv,k2⟩⟩
 ·refine ⟨k1, .inr ⟨g,cap,cur,hv,hb',(hk g ?_).trans hh,k2⟩⟩;injection hv with hv1;rw[hv1];rfl
theorem WrtA.gr (h:WrtA w B A code) (g:Gr w w'):WrtA w' B A code:=
 h.kept g.size (Below.block g B h.lt) λk hk=>Below.block g k (h.row k hk).2
theorem WrtA.grown {row:Option Nat} (h:WrtA w B A code) (g:w.grownBy w' row) (hB:row≠some B) (hA:∀k,row=some k->blk A≠some k):WrtA w' B A code:=
 h.kept g.size (g.block B h.lt (λe=>hB e.symm)) λk hk=>g.block k (h.row k hk).2 (λe=>hA k e.symm hk)
end
theorem full_any {w:World} {B:Nat} {A:Option Addr} {code:List In} (h:WrtA w B A code) :
  Calls Tryz.prog 82 #[.pointer (some ⟨B,0,none⟩)] w λe w'=>e= .returned (.bool (decide (1024<(code.length:Int))))/\w=w':=by
 obtain ⟨c,h1,h2, -,h4⟩:=h;go_enter Tryz.func82,Tryz.ntmps82;go_wp2;go_ret;exact ⟨rfl,rfl⟩
theorem lays_any {w:World} {B:Nat} {A:Option Addr} {code:List In} (h:WrtA w B A code) (ad:Addr) (m c':Nat) (news:List In) (hn:news.length=m) (h0:0<m) (hr:Rd w 4 (some ad) m (icells news)) (hb:code.length+m<=4096) :
  Calls Tryz.prog 80 #[.pointer (some ⟨B,0,none⟩), .slice (some ad) m c'] w λe w'=>e= .returned (.int .i64 code.length)/\∃A',WrtA w' B A' (code++news)/\WX B w (blk A) w' (blk A'):=by
 obtain ⟨i0,hi0,hz0,hz1,hz2⟩:=info_parts info_inst;obtain ⟨c,h1,h2,own,h4⟩:=h;have hvl:=own.lt;go_enter Tryz.func80,Tryz.ntmps80;go_wp2_with (at_builtin;refine wpList_append_rd rfl (.tmp 15) (.tmp 16) 69 rfl (B+1) 163 i0 _ 4 40 Tryz.underlying69 hi0 hz0 hz1 hz2 rfl (by decide) _ code.length _ rfl own (some ad) m c' (icells news) rfl hr (icells_one _) (by unfold maxLen;omega) (by omega) (by omega) ?_;intro v' w9 own9 hgr9 hob9;obtain ⟨A9,c9,hv9⟩:=own_form own9;subst hv9;have e9:w9.heap[B]?=w.heap[B]?:=hgr9.block B h4 (λe=>(by have:=hvl B e.symm;omega));have hc9:=(World.cell?_of_block (a:=⟨B,0,none⟩) e9).trans h1;have hf9:=(World.frozen?_of_block (a:=⟨B,0,none⟩) e9).trans h2;have hz9:B<w9.heap.size:=Nat.lt_of_lt_of_le h4 hgr9.size);go_ret;have hx:∀(A:Option Addr) (n c:Nat),(Value.slice A n c).ownBlock=blk A:=λA n c=>by cases A<;>rfl
 have hgr:w.grownBy w9 (Value.slice A code.length c).ownBlock:=hgr9;have hob:(Value.slice A9 (code.length+m) c9).ownBlock=(Value.slice A code.length c).ownBlock\/(Value.slice A9 (code.length+m) c9).ownBlock=some w.heap.size:=hob9;rw[hx] at hgr;rw[hx,hx] at hob;refine ⟨rfl,A9,⟨c9,?_,by simpa using hf9,?_,by simpa using hz9⟩,(WX.grown (B:=B) hgr hob).set (p:=⟨B,0,none⟩) (.inl rfl) _⟩
 ·rw[List.length_append,hn];go_simp
 ·rw[List.length_append,hn,icells_append];exact own_setX own9 (p:=⟨B,0,none⟩) (Nat.lt_succ_self _) _
theorem icells_set (code:List In):∀(i:Nat) (h:i<code.length) (x y:Int),((icells code).set (i*4+1) (.int .i64 x)).set (i*4+2) (.int .i64 y)=icells (code.set i ⟨code[i].op,x,y,code[i].ps⟩):=by
 induction code with
 | nil=>intro i h;simp at h
 | cons v l ih=>
  intro i h x y;match i,h with
  | 0,_=>rfl
  | i+1,h=>
   have h':i<l.length:=by simpa using h
   have e1:(i+1)*4+1=(i*4+1)+1+1+1+1:=by omega
   have e2:(i+1)*4+2=(i*4+2)+1+1+1+1:=by omega
   rw[icells_cons,e1,e2];simp only[List.set_cons_succ,List.getElem_cons_succ,icells_cons];rw[ih i h' x y]
def SpS (B g n c i:Nat) (W:World):Prop:=W.cell? ⟨B,0,none⟩=some (.slice (some ⟨g,0,none⟩) n c)/\(∀j,W.frozen? ⟨g,j,none⟩=false)/\(∃u,W.cell? ⟨g,i*4+1,none⟩=some u)/\∃u,W.cell? ⟨g,i*4+2,none⟩=some u
theorem SpS.set {B g n c i:Nat} {W:World} (h:SpS B g n c i W) (hB:B≠g) (u:Value):SpS B g n c i (W.setCell ⟨g,i*4+1,none⟩ u):=by
 obtain ⟨h0,h1,⟨u1,h2⟩,u2,h3⟩:=h;refine ⟨(World.cell?_setCell_other W _ ⟨B,0,none⟩ _ (by first|(simp;done)|(simp;omega))).trans h0,λj=>by rw[World.frozen?_setCell];exact h1 j,?_,u2,(World.cell?_setCell_other W _ ⟨g,i*4+2,none⟩ _ (by first|(simp;done)|(simp;omega))).trans h3⟩;exact ⟨u,by go_simp⟩
theorem WrtA.form {w:World} {B:Nat} {A:Option Addr} {code:List In} (h:WrtA w B A code) (h0:0<code.length):∃g,A=some ⟨g,0,none⟩:=by
 obtain ⟨c,_,_,own,_⟩:=h;obtain ⟨_,⟨_,h0'⟩|⟨g',cap,cur,hv,_⟩⟩:=own
 ·omega
 ·injection hv with hv1 _ _;exact ⟨g',hv1⟩
theorem splits_false {w:World} {B:Nat} {A:Option Addr} {code:List In} (h:WrtA w B A code) (hb:code.length<=4096) (i:Nat) (hi:i<code.length) (x y:Int) :
  Calls Tryz.prog 111 #[.pointer (some ⟨B,0,none⟩), .int .i64 i, .int .i64 x, .int .i64 y, .bool false] w λe w'=>e= .returned (.tuple #[])/\WrtA w' B A (code.set i ⟨code[i].op,x,y,code[i].ps⟩)/\WX B w (blk A) w' (blk A):=by
 obtain ⟨g,rfl⟩:=h.form (by omega);obtain ⟨c,h1,h2,own,h4⟩:=h;obtain ⟨hgl,hgs⟩:=own.lt g rfl;have hn4:=own.1;obtain ⟨n,hn⟩:∃n,n=code.length:=⟨_,rfl⟩
 have hin:i<n:=by omega
 have hi':(i:Int)<n:=by omega
 obtain ⟨res,hres⟩:∃res,code.set i ⟨code[i].op,x,y,code[i].ps⟩=res:=⟨_,rfl⟩
 rw[hres];have hrl:res.length=n:=by rw[<-hres,hn];simp
 have hst:=icells_set code i hi x y;rw[hres] at hst;rw[<-hn] at h1 own hn4;obtain ⟨cs,hcs⟩:∃cs,icells code=cs:=⟨_,rfl⟩
 rw[hcs] at own hn4 hst;obtain ⟨cr,hcr⟩:∃cr,icells res=cr:=⟨_,rfl⟩
 rw[hcr] at hst;have Hst:=Lib.hid hst;have Hcr:=Lib.hid hcr;have Hrl:=Lib.hid hrl;obtain ⟨u1,hu1⟩:∃u,w.cell? ⟨g,i*4+1,none⟩=some u:=by
  have:=own.cellAt (i*4+1) (by omega);rw[List.getElem?_eq_getElem (by omega)] at this;exact ⟨_,this⟩
 obtain ⟨u2,hu2⟩:∃u,w.cell? ⟨g,i*4+2,none⟩=some u:=by
  have:=own.cellAt (i*4+2) (by omega);rw[List.getElem?_eq_getElem (by omega)] at this;exact ⟨_,this⟩
 have hf1:=own.frozenAt (i*4+1);have hf2:=own.frozenAt (i*4+2);have hfa:=own.frozenAt;have Hown:=Lib.hid own;clear hn hres hn4 hst hcr hcs hrl own hi hb;go_enter Tryz.func111,Tryz.ntmps111;go_upto_region 2 with (fail)
 have hS0:SpS B g n c i w.drew:=⟨h1,hfa,⟨u1,hu1⟩,⟨u2,hu2⟩⟩
 refine wp_region_Z 17 (SpS B g n c i) (by kernel_rfl) ?_;have hBg:B≠g:=by omega
 clear hfa h1;refine zu 0 hS0 ?_;refine zu 1 hS0 ?_;refine zu 2 hS0 ?_;refine zu 3 hS0 ?_ (hy:=λW hS=>by obtain ⟨s0, -, -, -⟩:=hS;go_simp<;>rfl);refine zu 4 hS0 ?_;refine zu 5 hS0 ?_;refine zu 6 hS0 ?_;refine zu 7 hS0 ?_;refine zu 8 hS0 ?_ (hy:=λW hS=>by obtain ⟨s0, -, -, -⟩:=hS;go_simp<;>rfl);refine zu 9 hS0 ?_;refine zu 10 hS0 ?_;refine zu 11 hS0 ?_;refine zu 12 hS0 ?_;refine zu 13 hS0 ?_;refine zs 14 rfl (λK hK=>?_);simp only[Gl];refine wp_store_cell _ _ _ rfl ⟨g,i*4+1,none⟩ (.int .i64 x) u1 ?a1 ?a2 hu1 hf1 (by kernel_rfl) rfl ?a3;case a1=>first|rfl|(simp[Act.eval,Addr.add];done)
 case a2=>first|rfl|(simp[Act.eval];done)
 refine hK.out _ _ (λ_=>?zs1) (λ_=>?zr1);case zs1=>exact SpS.set hS0 hBg _
 clear hK K;simp only[Pu,Gl];have hS1:=SpS.set hS0 hBg (.int .i64 x);obtain ⟨V1,hV1⟩:∃V1,V1=w.drew.setCell ⟨g,i*4+1,none⟩ (.int .i64 x):=⟨_,rfl⟩
 rw[<-hV1] at hS1 ⊢;refine zu 15 hS1 ?_;refine zu 16 hS1 ?_;refine zs 17 rfl (λK hK=>?_);simp only[Gl];obtain ⟨u2',hu2'⟩:=hS1.2.2.2;refine wp_store_cell _ _ _ rfl ⟨g,i*4+2,none⟩ (.int .i64 y) u2' ?b1 ?b2 hu2' (hS1.2.1 _) (by kernel_rfl) rfl ?b3;case b1=>first|rfl|(simp[Act.eval,Addr.add];done)
 case b2=>first|rfl|(simp[Act.eval];done)
 refine hK.out _ _ (λhnz=>absurd rfl hnz) (λ_=>?zr2);clear hK K;simp only[Pu,Gl];refine wpAnyZ_done (by kernel_rfl) ?_ _;subst hV1;go_wp2;go_end0;have own:=Hown.out;obtain ⟨o1, -⟩:=own.drew.stored (i*4+1) (.int .i64 x);obtain ⟨o2, -⟩:=o1.stored (i*4+2) (.int .i64 y);rw[Hst.out,<-Hcr.out] at o2;refine ⟨rfl,⟨c,?_,?_,?_,?_⟩,((WX.gr (some g) (Gr.drew (Gr.refl w))).set (p:=⟨g,i*4+1,none⟩) (.inr rfl) _).set (p:=⟨g,i*4+2,none⟩) (.inr rfl) _⟩
 ·rw[Hrl.out];exact (World.cell?_setCell_other _ _ ⟨B,0,none⟩ _ (by first|(simp;done)|(simp;omega))).trans ((World.cell?_setCell_other _ _ ⟨B,0,none⟩ _ (by first|(simp;done)|(simp;omega))).trans hS0.1)
 ·rw[World.frozen?_setCell,World.frozen?_setCell];exact h2
 ·rw[Hrl.out];exact o2
 ·simpa using h4
theorem splits_true {w:World} {B:Nat} {A:Option Addr} {code:List In} (h:WrtA w B A code) (hb:code.length<=4096) (i:Nat) (hi:i<code.length) (x y:Int) :
  Calls Tryz.prog 111 #[.pointer (some ⟨B,0,none⟩), .int .i64 i, .int .i64 x, .int .i64 y, .bool true] w λe w'=>e= .returned (.tuple #[])/\WrtA w' B A (code.set i ⟨code[i].op,y,x,code[i].ps⟩)/\WX B w (blk A) w' (blk A):=by
 obtain ⟨g,rfl⟩:=h.form (by omega);obtain ⟨c,h1,h2,own,h4⟩:=h;obtain ⟨hgl,hgs⟩:=own.lt g rfl;have hn4:=own.1;obtain ⟨n,hn⟩:∃n,n=code.length:=⟨_,rfl⟩
 have hin:i<n:=by omega
 have hi':(i:Int)<n:=by omega
 obtain ⟨res,hres⟩:∃res,code.set i ⟨code[i].op,y,x,code[i].ps⟩=res:=⟨_,rfl⟩
 rw[hres];have hrl:res.length=n:=by rw[<-hres,hn];simp
 have hst:=icells_set code i hi y x;rw[hres] at hst;rw[<-hn] at h1 own hn4;obtain ⟨cs,hcs⟩:∃cs,icells code=cs:=⟨_,rfl⟩
 rw[hcs] at own hn4 hst;obtain ⟨cr,hcr⟩:∃cr,icells res=cr:=⟨_,rfl⟩
 rw[hcr] at hst;have Hst:=Lib.hid hst;have Hcr:=Lib.hid hcr;have Hrl:=Lib.hid hrl;obtain ⟨u1,hu1⟩:∃u,w.cell? ⟨g,i*4+1,none⟩=some u:=by
  have:=own.cellAt (i*4+1) (by omega);rw[List.getElem?_eq_getElem (by omega)] at this;exact ⟨_,this⟩
 obtain ⟨u2,hu2⟩:∃u,w.cell? ⟨g,i*4+2,none⟩=some u:=by
  have:=own.cellAt (i*4+2) (by omega);rw[List.getElem?_eq_getElem (by omega)] at this;exact ⟨_,this⟩
 have hf1:=own.frozenAt (i*4+1);have hf2:=own.frozenAt (i*4+2);have hfa:=own.frozenAt;have Hown:=Lib.hid own;clear hn hres hn4 hst hcr hcs hrl own hi hb;go_enter Tryz.func111,Tryz.ntmps111;go_upto_region 2 with (fail)
 have hS0:SpS B g n c i w.drew:=⟨h1,hfa,⟨u1,hu1⟩,⟨u2,hu2⟩⟩
 refine wp_region_Z 17 (SpS B g n c i) (by kernel_rfl) ?_;have hBg:B≠g:=by omega
 clear hfa h1;refine zu 0 hS0 ?_;refine zu 1 hS0 ?_;refine zu 2 hS0 ?_;refine zu 3 hS0 ?_ (hy:=λW hS=>by obtain ⟨s0, -, -, -⟩:=hS;go_simp<;>rfl);refine zu 4 hS0 ?_;refine zu 5 hS0 ?_;refine zu 6 hS0 ?_;refine zu 7 hS0 ?_;refine zu 8 hS0 ?_ (hy:=λW hS=>by obtain ⟨s0, -, -, -⟩:=hS;go_simp<;>rfl);refine zu 9 hS0 ?_;refine zu 10 hS0 ?_;refine zu 11 hS0 ?_;refine zu 12 hS0 ?_;refine zu 13 hS0 ?_;refine zs 14 rfl (λK hK=>?_);simp only[Gl];refine wp_store_cell _ _ _ rfl ⟨g,i*4+1,none⟩ (.int .i64 y) u1 ?a1 ?a2 hu1 hf1 (by kernel_rfl) rfl ?a3;case a1=>first|rfl|(simp[Act.eval,Addr.add];done)
 case a2=>first|rfl|(simp[Act.eval];done)
 refine hK.out _ _ (λ_=>?zs1) (λ_=>?zr1);case zs1=>exact SpS.set hS0 hBg _
 clear hK K;simp only[Pu,Gl];have hS1:=SpS.set hS0 hBg (.int .i64 y);obtain ⟨V1,hV1⟩:∃V1,V1=w.drew.setCell ⟨g,i*4+1,none⟩ (.int .i64 y):=⟨_,rfl⟩
 rw[<-hV1] at hS1 ⊢;refine zu 15 hS1 ?_;refine zu 16 hS1 ?_;refine zs 17 rfl (λK hK=>?_);simp only[Gl];obtain ⟨u2',hu2'⟩:=hS1.2.2.2;refine wp_store_cell _ _ _ rfl ⟨g,i*4+2,none⟩ (.int .i64 x) u2' ?b1 ?b2 hu2' (hS1.2.1 _) (by kernel_rfl) rfl ?b3;case b1=>first|rfl|(simp[Act.eval,Addr.add];done)
 case b2=>first|rfl|(simp[Act.eval];done)
 refine hK.out _ _ (λhnz=>absurd rfl hnz) (λ_=>?zr2);clear hK K;simp only[Pu,Gl];refine wpAnyZ_done (by kernel_rfl) ?_ _;subst hV1;go_wp2;go_end0;have own:=Hown.out;obtain ⟨o1, -⟩:=own.drew.stored (i*4+1) (.int .i64 y);obtain ⟨o2, -⟩:=o1.stored (i*4+2) (.int .i64 x);rw[Hst.out,<-Hcr.out] at o2;refine ⟨rfl,⟨c,?_,?_,?_,?_⟩,((WX.gr (some g) (Gr.drew (Gr.refl w))).set (p:=⟨g,i*4+1,none⟩) (.inr rfl) _).set (p:=⟨g,i*4+2,none⟩) (.inr rfl) _⟩
 ·rw[Hrl.out];exact (World.cell?_setCell_other _ _ ⟨B,0,none⟩ _ (by first|(simp;done)|(simp;omega))).trans ((World.cell?_setCell_other _ _ ⟨B,0,none⟩ _ (by first|(simp;done)|(simp;omega))).trans hS0.1)
 ·rw[World.frozen?_setCell,World.frozen?_setCell];exact h2
 ·rw[Hrl.out];exact o2
 ·simpa using h4
def RetW (w:World) (B:Nat) (A:Option Addr) (res:List In) (e:Ending) (w':World):Prop:=
 e= .returned (.tuple #[])/\∃A',WrtA w' B A' res/\WX B w (blk A) w' (blk A')
theorem Rd.inst (w:World) (v:In):Rd (w.alloc (.cells #[.int .i64 v.op, .int .i64 v.x, .int .i64 v.y, .string ⟨v.ps.toArray⟩] 163)) 4 (some ⟨w.heap.size,0,none⟩) 1 (icells [v]):=by
 refine ⟨rfl,λ_=>⟨_,rfl,by simp,λj u hu=>?_⟩⟩;have:=(World.ownsRow_lit (base:=0) (e:=163) (size:=4) w #[.int .i64 v.op, .int .i64 v.x, .int .i64 v.y, .string ⟨v.ps.toArray⟩] 1 (Nat.zero_le _) (by decide) rfl).cells (g:=w.heap.size) rfl j u (by simpa [icells] using hu);exact this
theorem lays_one {w:World} {B:Nat} {A:Option Addr} {code:List In} (h:WrtA w B A code) (v:In) (hb:code.length<=4000) :
  Calls Tryz.prog 80 #[.pointer (some ⟨B,0,none⟩), .slice (some ⟨w.heap.size,0,none⟩) 1 1] (w.alloc (.cells #[.int .i64 v.op, .int .i64 v.x, .int .i64 v.y, .string ⟨v.ps.toArray⟩] 163)) λe w'=>e= .returned (.int .i64 code.length)/\∃A',WrtA w' B A' (code++[v])/\WX B w (blk A) w' (blk A'):=by
 have g:=Gr.alloc (Gr.refl w) (.cells #[.int .i64 v.op, .int .i64 v.x, .int .i64 v.y, .string ⟨v.ps.toArray⟩] 163);refine (lays_any (h.gr g) _ 1 1 [v] rfl (by decide) (Rd.inst w v) (by omega)).mono ?_;rintro e w' ⟨he,A',h1,h2⟩;exact ⟨he,A',h1,(WX.gr _ g).trans h2⟩
theorem put_leaf {w:World} {B:Nat} {A:Option Addr} {code:List In} (hB:WrtA w B A code) (hl:code.length<=1020) {b op:Nat} {ps:List UInt8} (hop:op<10) (hbs:b<w.heap.size) (hn:Node w b op ps (.slice none 0 0) 0 false) :
  Calls Tryz.prog 81 #[.pointer (some ⟨B,0,none⟩), .pointer (some ⟨b,0,none⟩)] w (RetW w B A (code++[⟨op,0,0,ps⟩])):=by
 obtain ⟨n0,n1,n2,n3,n4⟩:=hn;have hful:decide (1024<(code.length:Int))=false:=by simp;omega
 have t10:((op:Int)==10)=false:=by simp;omega
 have t11:((op:Int)==11)=false:=by simp;omega
 have t12:((op:Int)==12)=false:=by simp;omega
 have t42:((op:Int)==42)=false:=by simp;omega
 have t43:((op:Int)==43)=false:=by simp;omega
 have t63:((op:Int)==63)=false:=by simp;omega
 obtain ⟨L,hL⟩:∃L,L=code.length:=⟨_,rfl⟩
 go_enter Tryz.func81,Tryz.ntmps81;go_upto_region 2 with (go_at_call 82;refine (full_any hB).mono ?_;rintro e w1 ⟨rfl,rfl⟩)
 clear t10 t11 t12 t42 t43 t63 hful n2 n3 n4;have hS0:Gr w w.drew:=Gr.drew (Gr.refl w);refine wp_region_Z 11 (λW=>Gr w W) (by kernel_rfl) ?_;refine zu 0 hS0 ?_;refine zu 1 hS0 ?_;refine zu 2 hS0 ?_;refine zu 3 hS0 ?_;refine zu 4 hS0 ?_ (hy:=λW hS=>by have g0:=bc hS hbs n0;go_simp<;>rfl);refine zu 5 hS0 ?_;refine zu 6 hS0 ?_;refine zu 7 hS0 ?_;refine zu 8 hS0 ?_ (hy:=λW hS=>by have g1:=bc hS hbs n1;go_simp<;>rfl);refine zu 9 hS0 ?_;clear n0 n1;refine zs 10 rfl (λK hK=>?_);simp only[Gl];go_simp;refine hK.out _ _ (λ_=>?zs1) (λ_=>?zr1);case zs1=>exact Gr.alloc hS0 _
 clear hK K;try simp only[Pu,Gl]
 refine zs 11 rfl (λK hK=>?_);simp only[Gl];go_simp;have hB1:=hB.gr hS0;refine (lays_one hB1 ⟨op,0,0,ps⟩ (by omega)).mono ?_;rintro e w' ⟨rfl,A',k1,k2⟩;go_wp2_with fail;refine hK.out _ _ (λhnz=>absurd rfl hnz) (λ_=>?zr2);clear hK K;try simp only[Pu,Gl]
 refine wpAnyZ_done (by kernel_rfl) ?_ _;go_wp2;go_end0;exact ⟨rfl,A',k1,(WX.gr _ hS0).trans k2⟩
end Go.Proofs.YtjapddfnpmlifaaGreatDoor
