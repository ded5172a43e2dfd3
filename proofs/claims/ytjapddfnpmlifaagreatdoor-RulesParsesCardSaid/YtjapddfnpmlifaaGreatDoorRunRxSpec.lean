import Derived.WalkKit
import Derived.Test.YtjapddfnpmlifaaGreatDoorRunFxBase
import Derived.Lib.Hide
import Derived.Test.YtjapddfnpmlifaaGreatDoorProg
import Derived.WalkLawsBesides
import Derived.WalkSpells
import Derived.Deep.WholeRow
import Derived.Deep.Cut
import Derived.Deep.CutBlock
set_option linter.all false
set_option maxRecDepth 1000000
set_option maxHeartbeats 12800000
namespace Go.Proofs.YtjapddfnpmlifaaGreatDoor
open Go.RowKit
abbrev Bs:=Nat->Bool
def oneB (c:Nat):Bs:=λi=>i==c
def runB (a b:Nat):Bs:=λi=>Nat.ble a i&&Nat.ble i b
def orB (f g:Bs):Bs:=λi=>f i||g i
def notB (f:Bs):Bs:=λi=> !f i
def noB:Bs:=λ_=>false
def digB:Bs:=runB 48 57
def wordB:Bs:=orB (orB (orB digB (runB 97 122)) (runB 65 90)) (runB 95 95)
def spB:Bs:=orB (runB 9 13) (runB 32 32)
def namedB (c:Nat):Option Bs:=
 bif c==100 then some digB else bif c==68 then some (notB digB) else
 bif c==119 then some wordB else bif c==87 then some (notB wordB) else
 bif c==115 then some spB else bif c==83 then some (notB spB) else none
def isWordB (c:Nat):Bool:=wordB c && !(c==95)
def pairsT (f:Bs):Nat->List UInt8
 | 0=>[]
 | k+1=>pairsT f k++((bif f k&&(k==0 || !f (k-1)) then [UInt8.ofNat k] else [])++(bif f k&&(k==255 || !f (k+1)) then [UInt8.ofNat k] else []))
def pairsS (f:Bs):List UInt8:=pairsT f 256
structure In where
 op:Int
 x:Int
 y:Int
 ps:List UInt8
deriving DecidableEq
mutual
inductive Pc where
 | leaf (op:Nat) (ps:List UInt8):Pc
 | row (l:PcL):Pc
 | ways (l:PcL):Pc
 | group (g:Nat) (k:Pc):Pc
 | rep (op:Nat) (lazy_:Bool) (k:Pc):Pc
inductive PcL where
 | nil:PcL
 | cons (p:Pc) (l:PcL):PcL
end
def PcL.toList:PcL->List Pc
 | .nil=>[]
 | .cons p l=>p::l.toList
def PcL.ofList:List Pc->PcL
 | []=> .nil
 | p::l=> .cons p (.ofList l)
mutual
def Pc.sz:Pc->Nat
 | .leaf _ _=>1
 | .row l=>l.szR
 | .ways l=>l.szW
 | .group g k=>bif g==0 then k.sz else k.sz+2
 | .rep op _ k=>bif op==42 then k.sz+2 else k.sz+1
def PcL.szR:PcL->Nat
 | .nil=>0
 | .cons p l=>p.sz+l.szR
def PcL.szW:PcL->Nat
 | .nil=>0
 | .cons p .nil=>p.sz
 | .cons p (.cons q l)=>p.sz+2+(PcL.cons q l).szW
end
def splitI (z:Bool) (x y:Int):In:=bif z then ⟨2,y,x,[]⟩ else ⟨2,x,y,[]⟩
mutual
def Pc.lay:Pc->Nat->List In
 | .leaf op ps,_=>[⟨op,0,0,ps⟩]
 | .row l,at_=>l.layR at_
 | .ways l,at_=>l.layW at_ (at_+l.szW)
 | .group g k,at_=>bif g==0 then k.lay at_ else ⟨4,2*g,0,[]⟩::(k.lay (at_+1)++[⟨4,2*g+1,0,[]⟩])
 | .rep op z k,at_=>
  bif op==42 then splitI z (at_+1) (at_+k.sz+2)::(k.lay (at_+1)++[⟨3,at_,0,[]⟩])
  else bif op==43 then k.lay at_++[splitI z at_ (at_+k.sz+1)]
  else splitI z (at_+1) (at_+k.sz+1)::k.lay (at_+1)
def PcL.layR:PcL->Nat->List In
 | .nil,_=>[]
 | .cons p l,at_=>p.lay at_++l.layR (at_+p.sz)
def PcL.layW:PcL->Nat->Nat->List In
 | .nil,_,_=>[]
 | .cons p .nil,at_,_=>p.lay at_
 | .cons p (.cons q l),at_,e=>⟨2,at_+1,at_+p.sz+2,[]⟩::(p.lay (at_+1)++(⟨3,e,0,[]⟩::(PcL.cons q l).layW (at_+p.sz+2) e))
end
structure Rs where
 rest:List UInt8
 groups:Nat
 deep:Nat
 bad:Bool
 over:Bool
def headIs (c:Nat):List UInt8->Bool
 | []=>false
 | x::_=>x.toNat==c
def escS:List UInt8->Option Bs×List UInt8
 | []=>(none,[])
 | c::r=>match namedB c.toNat with
  | some f=>(some f,r)
  | none=>(bif isWordB c.toNat then none else some (oneB c.toNat),r)
def isNamed (c:Nat):Bool:=(namedB c).isSome
def sideS:List UInt8->Option (Bs×Nat×Bool)×List UInt8
 | []=>(none,[])
 | c::r=>bif c.toNat==92 then (match r with
   | []=>(none,[])
   | d::q=>match escS (d::q) with
    | (some f,_)=>(some (f,d.toNat,isNamed d.toNat),q)
    | (none,_)=>(none,q))
  else (some (oneB c.toNat,c.toNat,false),r)
def rangesS:List UInt8->Bool
 | h::d::r=>h.toNat==45 && !(d.toNat==93)&&(!(d.toNat==92)||(match r with|[]=>true|e::_=> !isNamed e.toNat))
 | _=>false
def clsS:Nat->Bool->Bs->List UInt8->Option Bs×List UInt8
 | 0,_,_,r=>(none,r)
 | k+1,first,all,r=>
  bif first || !headIs 93 r then
   match sideS r with
   | (none,q)=>(none,q)
   | (some (f,a,wide),q)=>
    bif !wide&&rangesS q then
     match sideS (q.drop 1) with
     | (none,t)=>(none,t)
     | (some (_,b,_),t)=>bif Nat.blt b a then (none,t) else clsS k false (orB all (orB f (runB a b))) t
    else clsS k false (orB all f) q
  else (some all,r.drop 1)
def classS (r:List UInt8):Option Bs×List UInt8:=
 bif headIs 94 r then (match clsS r.length true noB (r.drop 1) with|(some f,q)=>(some (notB f),q)|(none,q)=>(none,q))
 else clsS (r.length+1) true noB r
def failS (s:Rs):Pc×Rs:=(.row .nil,{s with bad:=true})
def setS (s:Rs) (x:Option Bs×List UInt8):Pc×Rs:=
 match x with
 | (some f,q)=>(.leaf 1 (pairsS f),{s with rest:=q})
 | (none,q)=>failS {s with rest:=q}
def openS (s:Rs):Nat×Rs:=
 bif headIs 63 s.rest&&headIs 58 (s.rest.drop 1) then (0,{s with rest:=s.rest.drop 2}) else (s.groups+1,{s with groups:=s.groups+1})
def groupS (W:Rs->Pc×Rs) (s:Rs):Pc×Rs:=
 bif Nat.ble 64 s.deep then failS {s with deep:=s.deep+1,over:=true}
 else
  let r:=W (openS {s with deep:=s.deep+1}).2
  bif r.2.bad || !headIs 41 r.2.rest then failS r.2
  else (.group (openS {s with deep:=s.deep+1}).1 r.1,{r.2 with rest:=r.2.rest.drop 1,deep:=r.2.deep-1})
def stopC (c:Nat):Bool:=c==124||(c==63||(c==42||(c==43||c==41)))
def atomS (W:Rs->Pc×Rs) (s:Rs):Pc×Rs:=
 match s.rest with
 | []=>failS s
 | c::r=>
  bif c.toNat==40 then groupS W {s with rest:=r}
  else bif c.toNat==94 then (.leaf 5 [],{s with rest:=r})
  else bif c.toNat==36 then (.leaf 6 [],{s with rest:=r})
  else bif c.toNat==46 then (.leaf 1 (pairsS (notB (oneB 10))),{s with rest:=r})
  else bif c.toNat==91 then setS s (classS r)
  else bif c.toNat==92 then setS s (escS r)
  else bif stopC c.toNat then failS {s with rest:=r}
  else (.leaf 1 (pairsS (oneB c.toNat)),{s with rest:=r})
def repC (c:Nat):Bool:=c==42||(c==43||c==63)
def pieceS (W:Rs->Pc×Rs) (s:Rs):Pc×Rs:=
 let r:=atomS W s
 bif r.2.bad then r else
 match r.2.rest with
 | []=>r
 | c::q=>bif repC c.toNat then (.rep c.toNat (headIs 63 q) r.1,{r.2 with rest:=bif headIs 63 q then q.drop 1 else q}) else r
def endR (r:List UInt8):Bool:=match r with|[]=>true|c::_=>c.toNat==124||c.toNat==41
def rowS (W:Rs->Pc×Rs):Nat->Rs->PcL×Rs
 | 0,s=>(.nil,s)
 | k+1,s=>bif s.bad||endR s.rest then (.nil,s) else
  let r:=pieceS W s
  let q:=rowS W k r.2
  (.cons r.1 q.1,q.2)
def rowP (W:Rs->Pc×Rs) (s:Rs):Pc×Rs:=(.row (rowS W (s.rest.length+1) s).1,(rowS W (s.rest.length+1) s).2)
def altS (W:Rs->Pc×Rs):Nat->Rs->PcL×Rs
 | 0,s=>(.nil,s)
 | k+1,s=>
  let r:=rowP W s
  bif !r.2.bad&&headIs 124 r.2.rest then
   let q:=altS W k {r.2 with rest:=r.2.rest.drop 1}
   (.cons r.1 q.1,q.2)
  else (.cons r.1 .nil,r.2)
def lone:PcL->Pc
 | .cons p .nil=>p
 | l=> .ways l
def waysS:Nat->Rs->Pc×Rs
 | 0,s=>failS s
 | n+1,s=>(lone (altS (waysS n) (s.rest.length+1) s).1,(altS (waysS n) (s.rest.length+1) s).2)
def readS (s:List UInt8):Pc×Rs:=waysS (s.length+1) ⟨s,0,0,false,false⟩
def errX (s:List UInt8):Int:=
 bif (readS s).2.over then 12 else bif (readS s).2.bad || !(readS s).2.rest.isEmpty then 8 else 0
def codeX (s:List UInt8):List In:=⟨4,0,0,[]⟩::((readS s).1.lay 1++[⟨4,1,0,[]⟩,⟨7,0,0,[]⟩])

def bsA (f:Bs):Array Value:=((List.range 256).map λi=>Value.bool (f i)).toArray
theorem bsA_size (f:Bs):(bsA f).size=256:=by simp[bsA]
theorem bsA_at (f:Bs) {i:Nat} (h:i<256):(bsA f)[i]?=some (.bool (f i)):=by simp[bsA,h]
theorem bsA_eq {f g:Bs} (h:∀i,i<256->f i=g i):bsA f=bsA g:=by
 unfold bsA
 congr 1
 apply List.map_congr_left;intro i hi;rw[h i (by simpa using hi)]
theorem bsA_set (f:Bs) (c:Nat) (b:Bool):(bsA f).setIfInBounds c (.bool b)=bsA (λi=>bif i==c then b else f i):=by
 apply Array.ext
 ·simp[bsA]
 ·intro i h1 h2;simp only[bsA_size,Array.size_setIfInBounds] at h1 h2;rw[Array.getElem_setIfInBounds]
  ·simp only[bsA,List.getElem_toArray,List.getElem_map,List.getElem_range];by_cases h:i=c
   ·subst h;simp
   ·have:(i==c)=false:=by simpa using h
    simp[this,Ne.symm h]
  ·rw[bsA_size];exact h1
def icells (l:List In):List Value:=l.flatMap λv=>[.int .i64 v.op, .int .i64 v.x, .int .i64 v.y, .string ⟨v.ps.toArray⟩]
theorem icells_cons (v:In) (l:List In):icells (v::l)= .int .i64 v.op :: .int .i64 v.x :: .int .i64 v.y :: .string ⟨v.ps.toArray⟩::icells l:=rfl
theorem icells_append (l m:List In):icells (l++m)=icells l++icells m:=by simp[icells]
theorem icells_length (l:List In):(icells l).length=l.length*4:=by
 induction l with
 | nil=>rfl
 | cons v l ih=>rw[icells_cons];simp only[List.length_cons,ih];omega
theorem icells_one (l:List In):∀u∈icells l,u.oneCell'=true:=by
 intro u hu;simp only[icells,List.mem_flatMap] at hu;obtain ⟨v,_,hv⟩:=hu;simp at hv;rcases hv with rfl|rfl|rfl|rfl<;>rfl
theorem icells_at (l:List In):∀(k:Nat) (h:k<l.length),(icells l)[k*4]?=some (.int .i64 l[k].op)/\(icells l)[k*4+1]?=some (.int .i64 l[k].x)/\(icells l)[k*4+2]?=some (.int .i64 l[k].y)/\(icells l)[k*4+3]?=some (.string ⟨l[k].ps.toArray⟩):=by
 induction l with
 | nil=>intro k h;simp at h
 | cons v l ih=>
  intro k h;rw[icells_cons];match k,h with
  | 0,_=>exact ⟨rfl,rfl,rfl,rfl⟩
  | k+1,h=>
   have hk:k<l.length:=by simp only[List.length_cons] at h;omega
   have e:(k+1)*4=k*4+1+1+1+1:=by omega
   rw[e];obtain ⟨h0,h1,h2,h3⟩:=ih k hk;refine ⟨?_,?_,?_,?_⟩
   ·simpa only[List.getElem?_cons_succ,List.getElem_cons_succ] using h0
   ·simpa only[List.getElem?_cons_succ,List.getElem_cons_succ,Nat.add_right_comm _ 1] using h1
   ·rw[show k*4+1+1+1+1+2=k*4+2+1+1+1+1 by omega];simpa only[List.getElem?_cons_succ,List.getElem_cons_succ] using h2
   ·rw[show k*4+1+1+1+1+3=k*4+3+1+1+1+1 by omega];simpa only[List.getElem?_cons_succ,List.getElem_cons_succ] using h3
def Ri (w:World) (A:Option Addr) (l:List In):Prop:=Rd w 4 A l.length (icells l)
theorem Ri.gr {w w':World} {A:Option Addr} {l:List In} (h:Ri w A l) (g:Gr w w'):Ri w' A l:=Rd.gr h g
theorem Ri.at {w:World} {A:Option Addr} {l:List In} (h:Ri w A l) {k:Nat} (hk:k<l.length) :
  ∃ad:Addr,A=some ad/\ad.block<w.heap.size/\w.cell? (ad.add (k*4))=some (.int .i64 l[k].op)/\w.cell? ⟨(ad.add (k*4)).block,(ad.add (k*4)).off+1,none⟩=some (.int .i64 l[k].x)
   /\ w.cell? ⟨(ad.add (k*4)).block,(ad.add (k*4)).off+2,none⟩=some (.int .i64 l[k].y)/\w.cell? ⟨(ad.add (k*4)).block,(ad.add (k*4)).off+3,none⟩=some (.string ⟨l[k].ps.toArray⟩):=by
 obtain ⟨ad,e,hb,hc⟩:=h.2 (by omega);obtain ⟨h0,h1,h2,h3⟩:=icells_at l k hk;exact ⟨ad,e,hb,hc _ _ h0,(congrArg w.cell? (add_next ad (k*4) 0)).symm.trans (hc _ _ h1),(congrArg w.cell? (add_next ad (k*4) 1)).symm.trans (hc _ _ h2),(congrArg w.cell? (add_next ad (k*4) 2)).symm.trans (hc _ _ h3)⟩
def Node (w:World) (b:Nat) (op:Nat) (ps:List UInt8) (kids:Value) (g:Nat) (z:Bool):Prop:=
 w.cell? ⟨b,0,none⟩=some (.int .i64 op)/\w.cell? ⟨b,1,none⟩=some (.string ⟨ps.toArray⟩)/\w.cell? ⟨b,2,none⟩=some kids/\w.cell? ⟨b,3,none⟩=some (.int .i64 g)/\w.cell? ⟨b,4,none⟩=some (.bool z)
def ptrs (l:List Nat):List Value:=l.map λb=> .pointer (some ⟨b,0,none⟩)
theorem ptrs_append (l m:List Nat):ptrs (l++m)=ptrs l++ptrs m:=by simp[ptrs]
def Rk (lo:Nat) (w:World) (kids:Value) (bs:List Nat):Prop:=
 ∃A c,kids= .slice A bs.length c/\Rd w 1 A bs.length (ptrs bs)/\(0<bs.length->∀ad,A=some ad->lo<ad.block)
mutual
def Pc.at_ (lo:Nat) (w:World):Pc->Nat->Prop
 | .leaf op ps,b=>lo<b/\b<w.heap.size/\Node w b op ps (.slice none 0 0) 0 false
 | .row l,b=>lo<b/\b<w.heap.size/\∃kids bs,Node w b 10 [] kids 0 false/\Rk lo w kids bs/\l.at_ lo w bs
 | .ways l,b=>lo<b/\b<w.heap.size/\∃kids bs,Node w b 11 [] kids 0 false/\Rk lo w kids bs/\l.at_ lo w bs
 | .group g k,b=>lo<b/\b<w.heap.size/\∃kids bk,Node w b 12 [] kids g false/\Rk lo w kids [bk]/\k.at_ lo w bk
 | .rep op z k,b=>lo<b/\b<w.heap.size/\∃kids bk,Node w b op [] kids 0 z/\Rk lo w kids [bk]/\k.at_ lo w bk
def PcL.at_ (lo:Nat) (w:World):PcL->List Nat->Prop
 | .nil,bs=>bs=[]
 | .cons p l,bs=>∃b r,bs=b::r/\p.at_ lo w b/\l.at_ lo w r
end
theorem Node.gx {R b op:Nat} {w w':World} {ps:List UInt8} {kids:Value} {g:Nat} {z:Bool} (h:Node w b op ps kids g z) (x:GX R w w') (hb:b<w.heap.size) (hn:b≠R):Node w' b op ps kids g z:=by
 obtain ⟨h0,h1,h2,h3,h4⟩:=h;exact ⟨(x.cell (p:=⟨b,0,none⟩) hb hn).trans h0,(x.cell (p:=⟨b,1,none⟩) hb hn).trans h1,(x.cell (p:=⟨b,2,none⟩) hb hn).trans h2,(x.cell (p:=⟨b,3,none⟩) hb hn).trans h3,(x.cell (p:=⟨b,4,none⟩) hb hn).trans h4⟩
theorem Rd.gx {R size n:Nat} {w w':World} {A:Option Addr} {xs:List Value} (h:Rd w size A n xs) (x:GX R w w') (hn:0<n->∀ad,A=some ad->ad.block≠R):Rd w' size A n xs:=
 ⟨h.1,λh0=>by
  obtain ⟨ad,e,hb,hc⟩:=h.2 h0;exact ⟨ad,e,Nat.lt_of_lt_of_le hb x.size,λj u hu=>(x.cell (by rw[add_blk];exact hb) (by rw[add_blk];exact hn h0 ad e)).trans (hc j u hu)⟩⟩
theorem Rk.gx {R lo:Nat} {w w':World} {kids:Value} {bs:List Nat} (h:Rk lo w kids bs) (x:GX R w w') (hR:R<=lo):Rk lo w' kids bs:=by
 obtain ⟨A,c,e,hr,hb⟩:=h;exact ⟨A,c,e,hr.gx x (λh0 ad ha=>by have:=hb h0 ad ha;omega),hb⟩
mutual
theorem Pc.gx {R lo:Nat} {w w':World} (x:GX R w w') (hR:R<=lo):∀(p:Pc) (b:Nat),p.at_ lo w b->p.at_ lo w' b
 | .leaf op ps,b,h=>by
  simp only[Pc.at_] at h ⊢;obtain ⟨h1,h2,h3⟩:=h;exact ⟨h1,Nat.lt_of_lt_of_le h2 x.size,h3.gx x h2 (by omega)⟩
 | .row l,b,h=>by
  simp only[Pc.at_] at h ⊢;obtain ⟨h1,h2,kids,bs,h3,h4,h5⟩:=h;exact ⟨h1,Nat.lt_of_lt_of_le h2 x.size,kids,bs,h3.gx x h2 (by omega),h4.gx x hR,PcL.gx x hR l bs h5⟩
 | .ways l,b,h=>by
  simp only[Pc.at_] at h ⊢;obtain ⟨h1,h2,kids,bs,h3,h4,h5⟩:=h;exact ⟨h1,Nat.lt_of_lt_of_le h2 x.size,kids,bs,h3.gx x h2 (by omega),h4.gx x hR,PcL.gx x hR l bs h5⟩
 | .group g k,b,h=>by
  simp only[Pc.at_] at h ⊢;obtain ⟨h1,h2,kids,bk,h3,h4,h5⟩:=h;exact ⟨h1,Nat.lt_of_lt_of_le h2 x.size,kids,bk,h3.gx x h2 (by omega),h4.gx x hR,Pc.gx x hR k bk h5⟩
 | .rep op z k,b,h=>by
  simp only[Pc.at_] at h ⊢;obtain ⟨h1,h2,kids,bk,h3,h4,h5⟩:=h;exact ⟨h1,Nat.lt_of_lt_of_le h2 x.size,kids,bk,h3.gx x h2 (by omega),h4.gx x hR,Pc.gx x hR k bk h5⟩
theorem PcL.gx {R lo:Nat} {w w':World} (x:GX R w w') (hR:R<=lo):∀(l:PcL) (bs:List Nat),l.at_ lo w bs->l.at_ lo w' bs
 | .nil,bs,h=>by simpa only[PcL.at_] using h
 | .cons p l,bs,h=>by
  simp only[PcL.at_] at h ⊢;obtain ⟨b,r,e,h1,h2⟩:=h;exact ⟨b,r,e,Pc.gx x hR p b h1,PcL.gx x hR l r h2⟩
end
theorem Pc.gr {lo:Nat} {w w':World} (x:Gr w w') {p:Pc} {b:Nat} (h:p.at_ lo w b):p.at_ lo w' b:=Pc.gx (R:=0) (GX.of_gr x) (Nat.zero_le _) p b h
theorem PcL.gr {lo:Nat} {w w':World} (x:Gr w w') {l:PcL} {bs:List Nat} (h:l.at_ lo w bs):l.at_ lo w' bs:=PcL.gx (R:=0) (GX.of_gr x) (Nat.zero_le _) l bs h
structure Rdr (w:World) (R:Nat) (s:ByteArray) (n:Nat) (q:Rs):Prop where
 len:n+q.rest.length=s.size
 rest:s.data.toList.drop n=q.rest
 c0:w.cell? ⟨R,0,none⟩=some (.string s)
 c1:w.cell? ⟨R,1,none⟩=some (.int .i64 n)
 c2:w.cell? ⟨R,2,none⟩=some (.int .i64 q.groups)
 c3:w.cell? ⟨R,3,none⟩=some (.int .i64 q.deep)
 c4:w.cell? ⟨R,4,none⟩=some (.bool q.bad)
 c5:w.cell? ⟨R,5,none⟩=some (.bool q.over)
 f1:w.frozen? ⟨R,1,none⟩=false
 f2:w.frozen? ⟨R,2,none⟩=false
 f3:w.frozen? ⟨R,3,none⟩=false
 f4:w.frozen? ⟨R,4,none⟩=false
 f5:w.frozen? ⟨R,5,none⟩=false
 lt:R<w.heap.size
theorem Rdr.gr {w w':World} {R n:Nat} {s:ByteArray} {q:Rs} (h:Rdr w R s n q) (g:Gr w w'):Rdr w' R s n q:=
 ⟨h.len,h.rest,(g.cell (p:=⟨R,0,none⟩) h.lt).trans h.c0,(g.cell (p:=⟨R,1,none⟩) h.lt).trans h.c1,(g.cell (p:=⟨R,2,none⟩) h.lt).trans h.c2,(g.cell (p:=⟨R,3,none⟩) h.lt).trans h.c3,(g.cell (p:=⟨R,4,none⟩) h.lt).trans h.c4,(g.cell (p:=⟨R,5,none⟩) h.lt).trans h.c5,
  (g.frozen (p:=⟨R,1,none⟩) h.lt).trans h.f1,(g.frozen (p:=⟨R,2,none⟩) h.lt).trans h.f2,(g.frozen (p:=⟨R,3,none⟩) h.lt).trans h.f3,(g.frozen (p:=⟨R,4,none⟩) h.lt).trans h.f4,(g.frozen (p:=⟨R,5,none⟩) h.lt).trans h.f5,Nat.lt_of_lt_of_le h.lt g.size⟩
theorem info_set:(Tryz.prog.info? 219).map (λi=>(i.zero,i.size))=some (some (.agg (bsA noB)),256):=by kernel_rfl
def SetAt (w:World) (g:Nat) (f:Bs):Prop:=w.heap[g]?=some (.cells (bsA f) 219 (0,0))
theorem SetAt.cell {w:World} {g:Nat} {f:Bs} (h:SetAt w g f) {i:Nat} (hi:i<256):w.cell? ⟨g,i,none⟩=some (.bool (f i)):=
 (cell_of_row w g i _ _ _ h).trans (bsA_at f hi)
theorem SetAt.free {w:World} {g:Nat} {f:Bs} (h:SetAt w g f) (i:Nat):w.frozen? ⟨g,i,none⟩=false:=frozen_of_row w g i _ _ h
theorem SetAt.set {w:World} {g:Nat} {f:Bs} (h:SetAt w g f) (i:Nat) (b:Bool):SetAt (w.setCell ⟨g,i,none⟩ (.bool b)) g (λk=>bif k==i then b else f k):=
 (heap_setCell_same w g i _ _ (.bool b) h).trans (by rw[bsA_set])
theorem SetAt.lt {w:World} {g:Nat} {f:Bs} (h:SetAt w g f):g<w.heap.size:=(Array.getElem?_eq_some_iff.1 h).1
theorem SetAt.eq {w:World} {g:Nat} {f h:Bs} (k:SetAt w g f) (e:∀i,i<256->f i=h i):SetAt w g h:=by unfold SetAt;rw[<-bsA_eq e];exact k
theorem SetAt.gr {w w':World} {g:Nat} {f:Bs} (h:SetAt w g f) (x:Gr w w'):SetAt w' g f:=(Below.block x g h.lt).trans h
theorem SetAt.gx {w w':World} {g R:Nat} {f:Bs} (h:SetAt w g f) (x:GX R w w') (hn:g≠R):SetAt w' g f:=(x.block g h.lt hn).trans h
theorem SetAt.other {w:World} {g:Nat} {f:Bs} (h:SetAt w g f) {p:Addr} (hn:g≠p.block) (u:Value):SetAt (w.setCell p u) g f:=(heap_setCell_other w p g u hn).trans h
theorem SetAt.new (w:World) (f:Bs):SetAt (w.alloc (.cells (bsA f) 219)) w.heap.size f:=heap_alloc_new w _
def upB (a c:Nat):Bs:=λi=>Nat.ble a i&&Nat.blt i c
theorem adds_any (g:Nat) (f:Bs) (a b:Nat) (w:World) (ha:a<256) (hb:b<256) (hg:SetAt w g f) :
  Calls Tryz.prog 164 #[.pointer (some ⟨g,0,none⟩), .int .u8 a, .int .u8 b] w λe w'=>e= .returned (.tuple #[])/\GX g w w'/\SetAt w' g (orB f (runB a b)):=by
 have h1:(a:Int)<256:=by omega
 have h2:(b:Int)<256:=by omega
 go_enter Tryz.func164,Tryz.ntmps164;go_wp2
 go_loopw [6] (λi wr=>∃c:Nat,a<=c/\c<=max a (b+1)/\i= .int .i64 c/\GX g w wr/\SetAt wr g (orB f (upB a c))) (λi _=>(b+1)-(intOf i).toNat)
 case atStart=>
  refine ⟨a,Nat.le_refl _,by omega,rfl,GX.refl _ _,hg.eq λi _=>?_⟩;have:(Nat.ble a i&&Nat.blt i a)=false:=by rw[Bool.eq_false_iff];intro h;simp at h;omega
  simp[orB,upB,this]
 case round=>
  obtain ⟨c,hac,hcb,rfl,hgx,hs⟩:=hrel;by_cases hlt:c<=b
  ·have hc:=hs.cell (i:=c) (by omega);have hf:=hs.free c;have h3:(c:Int)<256:=by omega
   have HS:=hs.set c true;have HG:=GX.setCell hgx (p:=⟨g,c,none⟩) (.inl rfl) (.bool true);go_wp2;go_roundw;case rel=>
    refine ⟨c+1,by omega,by omega,by go_num,HG,HS.eq λi _=>?_⟩;unfold orB upB;by_cases hi:i=c
    ·subst hi;simp;omega
    ·have:(i==c)=false:=by simpa using hi
     simp only[this,cond_false]
     congr 1
     rw[Bool.eq_iff_iff];simp;omega
   case measure=>simp[intOf];omega
  ·have hgt:¬((c:Int)<=b):=by omega
   go_wp2;go_end0;refine ⟨rfl,hgx,hs.eq λi _=>?_⟩;unfold orB upB runB
   congr 1
   rw[Bool.eq_iff_iff];simp;omega
theorem und_set:Tryz.prog.underlying 219=some (.array 256 4):=by kernel_rfl
theorem size_set:(Tryz.prog.info? 219).map (·.size)=some 256:=(zero_of_info info_set).2
theorem bsA_one (f:Bs):(bsA f).all (·.oneCell')=true:=by
 rw[Array.all_eq_true_iff_forall_mem];intro v hv;simp only[bsA,List.mem_toArray,List.mem_map] at hv;obtain ⟨i,_,rfl⟩:=hv;rfl
theorem size_bsA (f:Bs):(Tryz.prog.info? 219).map (·.size)=some (bsA f).size:=by rw[bsA_size];exact size_set
theorem SetAt.row {w:World} {g:Nat} {f h:Bs} (k:SetAt w g h):SetAt (w.setRow g (bsA f)) g f:=setRow_heap w g (bsA h) (bsA f) _ _ k
theorem GX.setRow {R:Nat} {a w:World} (h:GX R a w) {g:Nat} (hp:g=R\/a.heap.size<=g) (cs:Array Value):GX R a (w.setRow g cs):=
 ⟨h.os,h.tape,h.output,by simpa using h.size,λk hk hn=>(setRow_other w g k cs (by omega)).trans (h.block k hk hn)⟩
theorem Gr.setRow {a w:World} (h:Gr a w) {g:Nat} (hp:a.heap.size<=g) (cs:Array Value):Gr a (w.setRow g cs):=
 ⟨h.os,h.tape,h.output,by simpa using h.size,λk hk=>(setRow_other w g k cs (by omega)).trans (Below.block h k hk)⟩
theorem not_any (f:Bs) (w:World) :
  Calls Tryz.prog 154 #[.agg (bsA f)] w λe w'=>e= .returned (.agg (bsA (notB f)))/\Gr w w':=by
 obtain ⟨hz,hsz⟩:=zero_of_info info_set;have g0:Gr w ((w.alloc (Obj.cells (bsA f) 219)).alloc (Obj.cells (bsA noB) 219)):=gq;have s0:SetAt ((w.alloc (Obj.cells (bsA f) 219)).alloc (Obj.cells (bsA noB) 219)) w.heap.size f:=(SetAt.new w f).gr (Gr.alloc (Gr.refl _) _);have s1:SetAt ((w.alloc (Obj.cells (bsA f) 219)).alloc (Obj.cells (bsA noB) 219)) (w.heap.size+1) noB:=by
  have:=SetAt.new (w.alloc (Obj.cells (bsA f) 219)) noB;simpa using this
 go_enter Tryz.func154,Tryz.ntmps154;go_wp2;generalize ((w.alloc (Obj.cells (bsA f) 219)).alloc (Obj.cells (bsA noB) 219))=w0 at g0 s0 s1 ⊢;clear hz hsz
 go_loopw [4] (λi wr=>∃c:Nat,c<=256/\i= .int .i64 c/\Gr w wr/\SetAt wr w.heap.size (λk=>bif decide (k<c) then !f k else f k)/\SetAt wr (w.heap.size+1) noB) (λi _=>256-(intOf i).toNat)
 case atStart=>exact ⟨0,by omega,rfl,g0,s0,s1⟩
 case round=>
  clear g0 s0 s1;obtain ⟨c,hc,rfl,hgr,hs,ht⟩:=hrel;by_cases hlt:c<256
  ·have h3:(c:Int)<256:=by omega
   have hcell:=hs.cell hlt;rw[show (bif decide (c<c) then !f c else f c)=f c by simp] at hcell;have hf:=hs.free c;have HS:=hs.set c (!f c);have HT:=ht.other (p:=⟨w.heap.size,c,none⟩) (by simp) (.bool (!f c));have HG:=Gr.setCell hgr (p:=⟨w.heap.size,c,none⟩) (Nat.le_refl _) (.bool (!f c));go_wp2;go_roundw;case rel=>
    refine ⟨c+1,by omega,by go_num,HG,HS.eq λi _=>?_,HT⟩;by_cases hi:i=c
    ·subst hi;simp
    ·have e1:(i==c)=false:=by simpa using hi
     have e2:decide (i<c+1)=decide (i<c):=by rw[decide_eq_decide];omega
     simp only[e1,cond_false,e2]
   case measure=>simp[intOf];omega
  ·have hc':c=256:=by omega
   subst hc';have hs':SetAt wr w.heap.size (notB f):=hs.eq λi hi=>by simp[notB,hi]
   clear hs;go_wp2_with (first
    | (refine wpList_load_row rfl 219 (.tmp 1) rfl w.heap.size rfl _ (bsA (notB f)) (0,0) _ hs' und_set rfl (size_bsA _) ?_)
    | (refine wpList_store_row rfl 219 (.tmp 2) (.tmp 14) rfl (w.heap.size+1) (bsA (notB f)) rfl rfl _ _ ht (size_bsA _) (by simp only[bsA_size]) (bsA_one _) ?_))
   refine bodyPost_ret (v:= .agg (bsA (notB f))) (results_cell_row (p:=2) (by kernel_rfl) _ _ (w.heap.size+1) _ _ (0,0) _ rfl (SetAt.row ht) und_set rfl (size_bsA _)) rfl ⟨rfl,Gr.setRow hgr (by omega) _⟩
theorem with_any (f h:Bs) (w:World) :
  Calls Tryz.prog 165 #[.agg (bsA f), .agg (bsA h)] w λe w'=>e= .returned (.agg (bsA (orB f h)))/\Gr w w':=by
 obtain ⟨hz,hsz⟩:=zero_of_info info_set;have g0:Gr w (((w.alloc (Obj.cells (bsA f) 219)).alloc (Obj.cells (bsA h) 219)).alloc (Obj.cells (bsA noB) 219)):=gq;have s0:SetAt (((w.alloc (Obj.cells (bsA f) 219)).alloc (Obj.cells (bsA h) 219)).alloc (Obj.cells (bsA noB) 219)) w.heap.size f:=(SetAt.new w f).gr (Gr.alloc (Gr.alloc (Gr.refl _) _) _);have s2:SetAt (((w.alloc (Obj.cells (bsA f) 219)).alloc (Obj.cells (bsA h) 219)).alloc (Obj.cells (bsA noB) 219)) (w.heap.size+1) h:=by
  have:=(SetAt.new (w.alloc (Obj.cells (bsA f) 219)) h).gr (Gr.alloc (Gr.refl _) (Obj.cells (bsA noB) 219));simpa using this
 have s1:SetAt (((w.alloc (Obj.cells (bsA f) 219)).alloc (Obj.cells (bsA h) 219)).alloc (Obj.cells (bsA noB) 219)) (w.heap.size+1+1) noB:=by
  have:=SetAt.new ((w.alloc (Obj.cells (bsA f) 219)).alloc (Obj.cells (bsA h) 219)) noB;simpa using this
 go_enter Tryz.func165,Tryz.ntmps165;go_wp2;generalize (((w.alloc (Obj.cells (bsA f) 219)).alloc (Obj.cells (bsA h) 219)).alloc (Obj.cells (bsA noB) 219))=w0 at g0 s0 s1 s2 ⊢;clear hz hsz
 go_loopw [6] (λi wr=>∃c:Nat,c<=256/\i= .int .i64 c/\Gr w wr/\SetAt wr w.heap.size (λk=>bif decide (k<c) then f k||h k else f k)/\SetAt wr (w.heap.size+1) h/\SetAt wr (w.heap.size+1+1) noB) (λi _=>256-(intOf i).toNat)
 case atStart=>exact ⟨0,by omega,rfl,g0,s0,s2,s1⟩
 case round=>
  clear g0 s0 s1 s2;obtain ⟨c,hc,rfl,hgr,hs,hh,ht⟩:=hrel;by_cases hlt:c<256
  ·have h3:(c:Int)<256:=by omega
   have hcell:=hs.cell hlt;rw[show (bif decide (c<c) then f c||h c else f c)=f c by simp] at hcell;have hcell2:=hh.cell hlt;have hf:=hs.free c;have HS:=hs.set c (f c||h c);have HT:=ht.other (p:=⟨w.heap.size,c,none⟩) (by simp;omega) (.bool (f c||h c));have HH:=hh.other (p:=⟨w.heap.size,c,none⟩) (by simp) (.bool (f c||h c));have HG:=Gr.setCell hgr (p:=⟨w.heap.size,c,none⟩) (Nat.le_refl _) (.bool (f c||h c));have HSX:∀i,i<256->(bif i==c then f c||h c else bif decide (i<c) then f i||h i else f i)=(bif decide (i<c+1) then f i||h i else f i):=by
    intro i _;by_cases hi:i=c
    ·subst hi;simp
    ·have e1:(i==c)=false:=by simpa using hi
     have e2:decide (i<c+1)=decide (i<c):=by rw[decide_eq_decide];omega
     simp only[e1,cond_false,e2]
   have HS:=HS.eq HSX;clear HSX;have HS:=Lib.hid HS;have HT:=Lib.hid HT;have HH:=Lib.hid HH;have HG:=Lib.hid HG;cases hb:f c;all_goals
    simp only[hb,Bool.true_or,Bool.false_or] at hcell HS HT HH HG;clear hb;go_wp2;go_roundw;case rel=>exact ⟨c+1,by omega,by go_num,HG.out,HS.out,HH.out,HT.out⟩
    case measure=>simp[intOf];omega
  ·have hc':c=256:=by omega
   subst hc';have hs':SetAt wr w.heap.size (orB f h):=hs.eq λi hi=>by simp[orB,hi]
   clear hs;go_wp2_with (first
    | (refine wpList_load_row rfl 219 (.tmp 2) rfl w.heap.size rfl _ (bsA (orB f h)) (0,0) _ hs' und_set rfl (size_bsA _) ?_)
    | (refine wpList_store_row rfl 219 (.tmp 4) (.tmp 20) rfl (w.heap.size+1+1) (bsA (orB f h)) rfl rfl _ _ ht (size_bsA _) (by simp only[bsA_size]) (bsA_one _) ?_))
   refine bodyPost_ret (v:= .agg (bsA (orB f h))) (results_cell_row (p:=4) (by kernel_rfl) _ _ (w.heap.size+1+1) _ _ (0,0) _ rfl (SetAt.row ht) und_set rfl (size_bsA _)) rfl ⟨rfl,Gr.setRow hgr (by omega) _⟩
theorem one_any (c:Nat) (w:World) (hc:c<256) :
  Calls Tryz.prog 153 #[.int .u8 c] w λe w'=>e= .returned (.agg (bsA (oneB c)))/\Gr w w':=by
 obtain ⟨hz,hsz⟩:=zero_of_info info_set;have h3:(c:Int)<256:=by omega
 have g0:Gr w ((w.alloc (Obj.cells (bsA noB) 219)).alloc (Obj.cells (bsA noB) 219)):=gq;have s0:SetAt ((w.alloc (Obj.cells (bsA noB) 219)).alloc (Obj.cells (bsA noB) 219)) w.heap.size noB:=(SetAt.new w noB).gr (Gr.alloc (Gr.refl _) _);have s1:SetAt ((w.alloc (Obj.cells (bsA noB) 219)).alloc (Obj.cells (bsA noB) 219)) (w.heap.size+1) noB:=by
  have:=SetAt.new (w.alloc (Obj.cells (bsA noB) 219)) noB;simpa using this
 go_enter Tryz.func153,Tryz.ntmps153;go_upto_region 2 with (fail)
 generalize ((w.alloc (Obj.cells (bsA noB) 219)).alloc (Obj.cells (bsA noB) 219))=w0 at g0 s0 s1 ⊢;clear hz hsz;have hcell:=s1.cell hc;have hf:=s1.free c;have S1:=(s1.set c true).eq (h:=oneB c) (λi _=>by unfold oneB noB;cases i==c<;>rfl);have S0:=s0.other (p:=⟨w.heap.size+1,c,none⟩) (by simp) (.bool true);have G0:=Gr.setCell g0 (p:=⟨w.heap.size+1,c,none⟩) (by simp) (.bool true);go_wp2_with (first
    | (refine wpList_load_row rfl 219 (.tmp 3) rfl (w.heap.size+1) rfl _ (bsA (oneB c)) (0,0) _ S1 und_set rfl (size_bsA _) ?_)
    | (refine wpList_store_row rfl 219 (.tmp 2) (.tmp 6) rfl (w.heap.size) (bsA (oneB c)) rfl rfl _ _ S0 (size_bsA _) (by simp only[bsA_size]) (bsA_one _) ?_))
 refine bodyPost_ret (v:= .agg (bsA (oneB c))) (results_cell_row (p:=2) (by kernel_rfl) _ _ (w.heap.size) _ _ (0,0) _ rfl (SetAt.row S0) und_set rfl (size_bsA _)) rfl ⟨rfl,Gr.setRow G0 (Nat.le_refl _) _⟩
theorem res_set2 (fn:Func) (p q:Tmp) (h:fn.results= #[.cell p 219, .tmp q]) (tmps:Array Value) (w:World) (g:Nat) (f:Bs) (b:Value) (hp:tmps.getD p undef= .pointer (some ⟨g,0,none⟩)) (hq:tmps.getD q undef=b) (hs:SetAt w g f) :
  (results fn tmps).run Tryz.prog w= .ok (.tuple #[.agg (bsA f),b]) w:=by
 have hp':tmps[p]?.getD undef= .pointer (some ⟨g,0,none⟩):=by simpa using hp
 have hq':tmps[q]?.getD undef=b:=by simpa using hq
 simp[results,h,hp',hq',asAddr,run_loadVar_row w g _ 219 (bsA f) (0,0) _ hs und_set rfl (size_bsA _)]
def nmB (c:Nat):Bs:=(namedB c).getD noB
theorem named_any (c:Nat) (w:World) (hc:c<256) :
  Calls Tryz.prog 166 #[.int .u8 c] w λe w'=>e= .returned (.tuple #[.agg (bsA (nmB c)), .bool (isNamed c)])/\Gr w w':=by
 obtain ⟨hz,hsz⟩:=zero_of_info info_set;have g0:Gr w ((w.alloc (Obj.cells (bsA noB) 219)).alloc (Obj.cells (bsA noB) 219)):=gq;have r0:SetAt ((w.alloc (Obj.cells (bsA noB) 219)).alloc (Obj.cells (bsA noB) 219)) w.heap.size noB:=(SetAt.new w noB).gr (Gr.alloc (Gr.refl _) _);have s0:SetAt ((w.alloc (Obj.cells (bsA noB) 219)).alloc (Obj.cells (bsA noB) 219)) (w.heap.size+1) noB:=by
  have:=SetAt.new (w.alloc (Obj.cells (bsA noB) 219)) noB;simpa using this
 by_cases h100:c=100;case pos=>
  subst h100;go_enter Tryz.func166,Tryz.ntmps166;go_upto_region 2 with (fail)
  generalize ((w.alloc (Obj.cells (bsA noB) 219)).alloc (Obj.cells (bsA noB) 219))=w0 at g0 r0 s0 ⊢;clear hz hsz;go_wp2_with fail;refine (adds_any (w.heap.size+1) _ 48 57 _ (by decide) (by decide) s0).mono ?_;rintro e w1 ⟨rfl,hg1,s1⟩;have g1:=GX.gr g0 hg1 (Nat.le_succ _);have r1:=r0.gx hg1 (by simp);clear hg1 s0 g0 r0;have sk:SetAt w1 (w.heap.size+1) digB:=s1.eq (λi _=>by simp only[orB,noB,digB,wordB,spB,Bool.false_or]);clear s1;go_wp2_with (first
    | (refine wpList_load_row rfl 219 (.tmp 4) rfl (w.heap.size+1) rfl _ (bsA digB) (0,0) _ sk und_set rfl (size_bsA _) ?_)
    | (refine wpList_store_row rfl 219 (.tmp 2) (.tmp 27) rfl (w.heap.size) (bsA digB) rfl rfl _ _ r1 (size_bsA _) (by simp only[bsA_size]) (bsA_one _) ?_))
  exact bodyPost_ret (v:= .tuple #[.agg (bsA digB), .bool true]) (res_set2 _ 2 3 (by kernel_rfl) _ _ w.heap.size _ _ rfl rfl (SetAt.row r1)) rfl ⟨rfl,Gr.setRow g1 (Nat.le_refl _) _⟩
 by_cases h68:c=68;case pos=>
  subst h68;go_enter Tryz.func166,Tryz.ntmps166;go_upto_region 2 with (fail)
  generalize ((w.alloc (Obj.cells (bsA noB) 219)).alloc (Obj.cells (bsA noB) 219))=w0 at g0 r0 s0 ⊢;clear hz hsz;go_wp2_with fail;refine (adds_any (w.heap.size+1) _ 48 57 _ (by decide) (by decide) s0).mono ?_;rintro e w1 ⟨rfl,hg1,s1⟩;have g1:=GX.gr g0 hg1 (Nat.le_succ _);have r1:=r0.gx hg1 (by simp);clear hg1 s0 g0 r0;have sk:SetAt w1 (w.heap.size+1) digB:=s1.eq (λi _=>by simp only[orB,noB,digB,wordB,spB,Bool.false_or]);clear s1;go_wp2_with (first
    | (refine wpList_load_row rfl 219 (.tmp 4) rfl (w.heap.size+1) rfl _ (bsA digB) (0,0) _ sk und_set rfl (size_bsA _) ?_)
    | (go_at_call 154;refine (not_any _ _).mono ?_;rintro e wn ⟨rfl,hn⟩;have gk:=Gr.trans g1 hn;have rk:=r1.gr hn;have sn:=sk.gr hn;have SN:=SetAt.row (f:=notB digB) sn;have RN:SetAt (wn.setRow (w.heap.size+1) (bsA (notB digB))) w.heap.size noB:=(setRow_other _ _ _ _ (by simp)).trans rk;have GN:=Gr.setRow gk (g:=w.heap.size+1) (Nat.le_succ _) (bsA (notB digB));clear gk rk g1 r1 hn sk)
    | (refine wpList_store_row rfl 219 (.tmp 4) (.tmp 26) rfl (w.heap.size+1) (bsA (notB digB)) rfl rfl _ _ sn (size_bsA _) (by simp only[bsA_size]) (bsA_one _) ?_)
    | (refine wpList_load_row rfl 219 (.tmp 4) rfl (w.heap.size+1) rfl _ (bsA (notB digB)) (0,0) _ SN und_set rfl (size_bsA _) ?_)
    | (refine wpList_store_row rfl 219 (.tmp 2) (.tmp 27) rfl (w.heap.size) (bsA (notB digB)) rfl rfl _ _ RN (size_bsA _) (by simp only[bsA_size]) (bsA_one _) ?_))
  exact bodyPost_ret (v:= .tuple #[.agg (bsA (notB digB)), .bool true]) (res_set2 _ 2 3 (by kernel_rfl) _ _ w.heap.size _ _ rfl rfl (SetAt.row RN)) rfl ⟨rfl,Gr.setRow GN (Nat.le_refl _) _⟩
 by_cases h119:c=119;case pos=>
  subst h119;go_enter Tryz.func166,Tryz.ntmps166;go_upto_region 2 with (fail)
  generalize ((w.alloc (Obj.cells (bsA noB) 219)).alloc (Obj.cells (bsA noB) 219))=w0 at g0 r0 s0 ⊢;clear hz hsz;go_wp2_with fail;refine (adds_any (w.heap.size+1) _ 48 57 _ (by decide) (by decide) s0).mono ?_;rintro e w1 ⟨rfl,hg1,s1⟩;have g1:=GX.gr g0 hg1 (Nat.le_succ _);have r1:=r0.gx hg1 (by simp);clear hg1 s0 g0 r0;go_wp2_with fail;refine (adds_any (w.heap.size+1) _ 97 122 _ (by decide) (by decide) s1).mono ?_;rintro e w2 ⟨rfl,hg2,s2⟩;have g2:=GX.gr g1 hg2 (Nat.le_succ _);have r2:=r1.gx hg2 (by simp);clear hg2 s1 g1 r1;go_wp2_with fail;refine (adds_any (w.heap.size+1) _ 65 90 _ (by decide) (by decide) s2).mono ?_;rintro e w3 ⟨rfl,hg3,s3⟩;have g3:=GX.gr g2 hg3 (Nat.le_succ _);have r3:=r2.gx hg3 (by simp);clear hg3 s2 g2 r2;go_wp2_with fail;refine (adds_any (w.heap.size+1) _ 95 95 _ (by decide) (by decide) s3).mono ?_;rintro e w4 ⟨rfl,hg4,s4⟩;have g4:=GX.gr g3 hg4 (Nat.le_succ _);have r4:=r3.gx hg4 (by simp);clear hg4 s3 g3 r3;have sk:SetAt w4 (w.heap.size+1) wordB:=s4.eq (λi _=>by simp only[orB,noB,digB,wordB,spB,Bool.false_or]);clear s4;go_wp2_with (first
    | (refine wpList_load_row rfl 219 (.tmp 4) rfl (w.heap.size+1) rfl _ (bsA wordB) (0,0) _ sk und_set rfl (size_bsA _) ?_)
    | (refine wpList_store_row rfl 219 (.tmp 2) (.tmp 27) rfl (w.heap.size) (bsA wordB) rfl rfl _ _ r4 (size_bsA _) (by simp only[bsA_size]) (bsA_one _) ?_))
  exact bodyPost_ret (v:= .tuple #[.agg (bsA wordB), .bool true]) (res_set2 _ 2 3 (by kernel_rfl) _ _ w.heap.size _ _ rfl rfl (SetAt.row r4)) rfl ⟨rfl,Gr.setRow g4 (Nat.le_refl _) _⟩
 by_cases h87:c=87;case pos=>
  subst h87;go_enter Tryz.func166,Tryz.ntmps166;go_upto_region 2 with (fail)
  generalize ((w.alloc (Obj.cells (bsA noB) 219)).alloc (Obj.cells (bsA noB) 219))=w0 at g0 r0 s0 ⊢;clear hz hsz;go_wp2_with fail;refine (adds_any (w.heap.size+1) _ 48 57 _ (by decide) (by decide) s0).mono ?_;rintro e w1 ⟨rfl,hg1,s1⟩;have g1:=GX.gr g0 hg1 (Nat.le_succ _);have r1:=r0.gx hg1 (by simp);clear hg1 s0 g0 r0;go_wp2_with fail;refine (adds_any (w.heap.size+1) _ 97 122 _ (by decide) (by decide) s1).mono ?_;rintro e w2 ⟨rfl,hg2,s2⟩;have g2:=GX.gr g1 hg2 (Nat.le_succ _);have r2:=r1.gx hg2 (by simp);clear hg2 s1 g1 r1;go_wp2_with fail;refine (adds_any (w.heap.size+1) _ 65 90 _ (by decide) (by decide) s2).mono ?_;rintro e w3 ⟨rfl,hg3,s3⟩;have g3:=GX.gr g2 hg3 (Nat.le_succ _);have r3:=r2.gx hg3 (by simp);clear hg3 s2 g2 r2;go_wp2_with fail;refine (adds_any (w.heap.size+1) _ 95 95 _ (by decide) (by decide) s3).mono ?_;rintro e w4 ⟨rfl,hg4,s4⟩;have g4:=GX.gr g3 hg4 (Nat.le_succ _);have r4:=r3.gx hg4 (by simp);clear hg4 s3 g3 r3;have sk:SetAt w4 (w.heap.size+1) wordB:=s4.eq (λi _=>by simp only[orB,noB,digB,wordB,spB,Bool.false_or]);clear s4;go_wp2_with (first
    | (refine wpList_load_row rfl 219 (.tmp 4) rfl (w.heap.size+1) rfl _ (bsA wordB) (0,0) _ sk und_set rfl (size_bsA _) ?_)
    | (go_at_call 154;refine (not_any _ _).mono ?_;rintro e wn ⟨rfl,hn⟩;have gk:=Gr.trans g4 hn;have rk:=r4.gr hn;have sn:=sk.gr hn;have SN:=SetAt.row (f:=notB wordB) sn;have RN:SetAt (wn.setRow (w.heap.size+1) (bsA (notB wordB))) w.heap.size noB:=(setRow_other _ _ _ _ (by simp)).trans rk;have GN:=Gr.setRow gk (g:=w.heap.size+1) (Nat.le_succ _) (bsA (notB wordB));clear gk rk g4 r4 hn sk)
    | (refine wpList_store_row rfl 219 (.tmp 4) (.tmp 26) rfl (w.heap.size+1) (bsA (notB wordB)) rfl rfl _ _ sn (size_bsA _) (by simp only[bsA_size]) (bsA_one _) ?_)
    | (refine wpList_load_row rfl 219 (.tmp 4) rfl (w.heap.size+1) rfl _ (bsA (notB wordB)) (0,0) _ SN und_set rfl (size_bsA _) ?_)
    | (refine wpList_store_row rfl 219 (.tmp 2) (.tmp 27) rfl (w.heap.size) (bsA (notB wordB)) rfl rfl _ _ RN (size_bsA _) (by simp only[bsA_size]) (bsA_one _) ?_))
  exact bodyPost_ret (v:= .tuple #[.agg (bsA (notB wordB)), .bool true]) (res_set2 _ 2 3 (by kernel_rfl) _ _ w.heap.size _ _ rfl rfl (SetAt.row RN)) rfl ⟨rfl,Gr.setRow GN (Nat.le_refl _) _⟩
 by_cases h115:c=115;case pos=>
  subst h115;go_enter Tryz.func166,Tryz.ntmps166;go_upto_region 2 with (fail)
  generalize ((w.alloc (Obj.cells (bsA noB) 219)).alloc (Obj.cells (bsA noB) 219))=w0 at g0 r0 s0 ⊢;clear hz hsz;go_wp2_with fail;refine (adds_any (w.heap.size+1) _ 9 13 _ (by decide) (by decide) s0).mono ?_;rintro e w1 ⟨rfl,hg1,s1⟩;have g1:=GX.gr g0 hg1 (Nat.le_succ _);have r1:=r0.gx hg1 (by simp);clear hg1 s0 g0 r0;go_wp2_with fail;refine (adds_any (w.heap.size+1) _ 32 32 _ (by decide) (by decide) s1).mono ?_;rintro e w2 ⟨rfl,hg2,s2⟩;have g2:=GX.gr g1 hg2 (Nat.le_succ _);have r2:=r1.gx hg2 (by simp);clear hg2 s1 g1 r1;have sk:SetAt w2 (w.heap.size+1) spB:=s2.eq (λi _=>by simp only[orB,noB,digB,wordB,spB,Bool.false_or]);clear s2;go_wp2_with (first
    | (refine wpList_load_row rfl 219 (.tmp 4) rfl (w.heap.size+1) rfl _ (bsA spB) (0,0) _ sk und_set rfl (size_bsA _) ?_)
    | (refine wpList_store_row rfl 219 (.tmp 2) (.tmp 27) rfl (w.heap.size) (bsA spB) rfl rfl _ _ r2 (size_bsA _) (by simp only[bsA_size]) (bsA_one _) ?_))
  exact bodyPost_ret (v:= .tuple #[.agg (bsA spB), .bool true]) (res_set2 _ 2 3 (by kernel_rfl) _ _ w.heap.size _ _ rfl rfl (SetAt.row r2)) rfl ⟨rfl,Gr.setRow g2 (Nat.le_refl _) _⟩
 by_cases h83:c=83;case pos=>
  subst h83;go_enter Tryz.func166,Tryz.ntmps166;go_upto_region 2 with (fail)
  generalize ((w.alloc (Obj.cells (bsA noB) 219)).alloc (Obj.cells (bsA noB) 219))=w0 at g0 r0 s0 ⊢;clear hz hsz;go_wp2_with fail;refine (adds_any (w.heap.size+1) _ 9 13 _ (by decide) (by decide) s0).mono ?_;rintro e w1 ⟨rfl,hg1,s1⟩;have g1:=GX.gr g0 hg1 (Nat.le_succ _);have r1:=r0.gx hg1 (by simp);clear hg1 s0 g0 r0;go_wp2_with fail;refine (adds_any (w.heap.size+1) _ 32 32 _ (by decide) (by decide) s1).mono ?_;rintro e w2 ⟨rfl,hg2,s2⟩;have g2:=GX.gr g1 hg2 (Nat.le_succ _);have r2:=r1.gx hg2 (by simp);clear hg2 s1 g1 r1;have sk:SetAt w2 (w.heap.size+1) spB:=s2.eq (λi _=>by simp only[orB,noB,digB,wordB,spB,Bool.false_or]);clear s2;go_wp2_with (first
    | (refine wpList_load_row rfl 219 (.tmp 4) rfl (w.heap.size+1) rfl _ (bsA spB) (0,0) _ sk und_set rfl (size_bsA _) ?_)
    | (go_at_call 154;refine (not_any _ _).mono ?_;rintro e wn ⟨rfl,hn⟩;have gk:=Gr.trans g2 hn;have rk:=r2.gr hn;have sn:=sk.gr hn;have SN:=SetAt.row (f:=notB spB) sn;have RN:SetAt (wn.setRow (w.heap.size+1) (bsA (notB spB))) w.heap.size noB:=(setRow_other _ _ _ _ (by simp)).trans rk;have GN:=Gr.setRow gk (g:=w.heap.size+1) (Nat.le_succ _) (bsA (notB spB));clear gk rk g2 r2 hn sk)
    | (refine wpList_store_row rfl 219 (.tmp 4) (.tmp 26) rfl (w.heap.size+1) (bsA (notB spB)) rfl rfl _ _ sn (size_bsA _) (by simp only[bsA_size]) (bsA_one _) ?_)
    | (refine wpList_load_row rfl 219 (.tmp 4) rfl (w.heap.size+1) rfl _ (bsA (notB spB)) (0,0) _ SN und_set rfl (size_bsA _) ?_)
    | (refine wpList_store_row rfl 219 (.tmp 2) (.tmp 27) rfl (w.heap.size) (bsA (notB spB)) rfl rfl _ _ RN (size_bsA _) (by simp only[bsA_size]) (bsA_one _) ?_))
  exact bodyPost_ret (v:= .tuple #[.agg (bsA (notB spB)), .bool true]) (res_set2 _ 2 3 (by kernel_rfl) _ _ w.heap.size _ _ rfl rfl (SetAt.row RN)) rfl ⟨rfl,Gr.setRow GN (Nat.le_refl _) _⟩
 have q100:((c:Int)==100)=false:=beq_eq_false_iff_ne.2 (by omega);have q68:((c:Int)==68)=false:=beq_eq_false_iff_ne.2 (by omega);have q119:((c:Int)==119)=false:=beq_eq_false_iff_ne.2 (by omega);have q87:((c:Int)==87)=false:=beq_eq_false_iff_ne.2 (by omega);have q115:((c:Int)==115)=false:=beq_eq_false_iff_ne.2 (by omega);have q83:((c:Int)==83)=false:=beq_eq_false_iff_ne.2 (by omega);have e1:nmB c=noB:=by simp[nmB,namedB,beq_eq_false_iff_ne.2 h100,beq_eq_false_iff_ne.2 h68,beq_eq_false_iff_ne.2 h119,beq_eq_false_iff_ne.2 h87,beq_eq_false_iff_ne.2 h115,beq_eq_false_iff_ne.2 h83]
 have e2:isNamed c=false:=by simp[isNamed,namedB,beq_eq_false_iff_ne.2 h100,beq_eq_false_iff_ne.2 h68,beq_eq_false_iff_ne.2 h119,beq_eq_false_iff_ne.2 h87,beq_eq_false_iff_ne.2 h115,beq_eq_false_iff_ne.2 h83]
 rw[e1,e2];clear e1 e2 h100 h68 h119 h87 h115 h83;go_enter Tryz.func166,Tryz.ntmps166;go_upto_region 2 with (fail)
 generalize ((w.alloc (Obj.cells (bsA noB) 219)).alloc (Obj.cells (bsA noB) 219))=w0 at g0 r0 s0 ⊢;clear hz hsz;go_wp2_with (first
    | (refine wpList_load_row rfl 219 (.tmp 4) rfl (w.heap.size+1) rfl _ (bsA noB) (0,0) _ s0 und_set rfl (size_bsA _) ?_)
    | (refine wpList_store_row rfl 219 (.tmp 2) (.tmp 6) rfl (w.heap.size) (bsA noB) rfl rfl _ _ r0 (size_bsA _) (by simp only[bsA_size]) (bsA_one _) ?_))
 exact bodyPost_ret (v:= .tuple #[.agg (bsA noB), .bool false]) (res_set2 _ 2 3 (by kernel_rfl) _ _ w.heap.size _ _ rfl rfl (SetAt.row r0)) rfl ⟨rfl,Gr.setRow g0 (Nat.le_refl _) _⟩
end Go.Proofs.YtjapddfnpmlifaaGreatDoor
