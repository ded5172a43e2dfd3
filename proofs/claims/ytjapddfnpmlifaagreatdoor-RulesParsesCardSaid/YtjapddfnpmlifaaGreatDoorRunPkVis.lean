import Derived.Test.YtjapddfnpmlifaaGreatDoorRunPkSpec
import Derived.Test.YtjapddfnpmlifaaGreatDoorRunFxBase
set_option linter.all false
set_option maxRecDepth 1000000
set_option maxHeartbeats 12800000
namespace Go.Proofs.YtjapddfnpmlifaaGreatDoor
section
open Go.RowKit Go.Maps
theorem FrX.grown {ex:Nat->Prop} {w w':World} {row:Option Nat} (hg:w.grownBy w' row) (h:∀k,row=some k->ex k):FrX ex w w':=
 ⟨hg.os,hg.tape,hg.output,hg.size,λk hk hn=>hg.block k hk (λe=>hn (h k e.symm))⟩
theorem FrX.set {ex:Nat->Prop} (w:World) {a:Addr} (h:ex a.block) (u:Value):FrX ex w (w.setCell a u):=
 ⟨rfl,rfl,rfl,by simp,λk hk hn=>Below.heap_setCell w a u k (λe=>hn (e▸h))⟩
theorem FrX.mono {ex ex':Nat->Prop} {w w':World} (h:FrX ex w w') (hx:∀k,ex k->ex' k):FrX ex' w w':=
 ⟨h.os,h.tape,h.output,h.size,λk hk hn=>h.block k hk (λe=>hn (hx k e))⟩
theorem FrX.since {ex ex':Nat->Prop} {w0 w w':World} (f:FrX ex' w w') (h:FrX ex w0 w) (hx:∀k,k<w0.heap.size->ex' k->ex k):FrX ex w0 w':=
 ⟨f.os.trans h.os,f.tape.trans h.tape,f.output.trans h.output,Nat.le_trans h.size f.size,λk hk hn=>(f.block k (Nat.lt_of_lt_of_le hk h.size) (λe=>hn (hx k hk e))).trans (h.block k hk hn)⟩
theorem own_fr {ex:Nat->Prop} {w w':World} {base:Nat} {e:TypeId} {size n:Nat} {v:Value} {xs:List Value} (h:w.ownsRow base e size v n xs) (f:FrX ex w w') (hn:∀k,v.ownBlock=some k->¬ex k):w'.ownsRow base e size v n xs:=by
 have hlt:=h.lt;obtain ⟨h1,⟨hv,h0⟩|⟨g',cap,cur,hv,hb,hh,h2⟩⟩:=h
 ·exact ⟨h1, .inl ⟨hv,h0⟩⟩
 ·have ho:v.ownBlock=some g':=by rw[hv];rfl
  exact ⟨h1, .inr ⟨g',cap,cur,hv,hb,(f.block g' (hlt g' ho).2 (hn g' ho)).trans hh,h2⟩⟩
theorem MpB.fr {ex:Nat->Prop} {w w':World} {B n:Nat} {S:Int->Bool} (h:MpB w B n S) (f:FrX ex w w') (hn:¬ex B):MpB w' B n S:=by
 have hlt:=h.lt;obtain ⟨D,⟨es,clock,hb,F,hs,hD⟩,h2,h3⟩:=h;exact ⟨D,⟨es,clock,(f.block B hlt hn).trans hb,F,hs,hD⟩,h2,h3⟩
theorem Ri.fr {ex:Nat->Prop} {w w':World} {A:Option Addr} {l:List In} (h:Ri w A l) (f:FrX ex w w') (hn:0<l.length->∀ad,A=some ad->¬ex ad.block):Ri w' A l:=by
 refine ⟨h.1,λh0=>?_⟩;obtain ⟨ad,e,hb,hc⟩:=h.2 h0;refine ⟨ad,e,Nat.lt_of_lt_of_le hb f.size,λj u hu=>?_⟩;have hab:(ad.add j).block=ad.block:=by unfold Addr.add;split<;>rfl
 rw[f.cell (by rw[hab];exact hb) (by rw[hab];exact hn h0 ad e)];exact hc j u hu
theorem PlX.go {ex ex' ch:Nat->Prop} {w w':World} {s:Value} (h:PlX ex w s) (f:FrX ch w w') (hc:∀k,ch k->ex k) (hx:∀k,k<w.heap.size->ex' k->ex k):PlX ex' w' s:=by
 obtain ⟨a,m,⟨c,e,h0,hm,ha,hcl⟩,hn⟩:=h;refine ⟨a,m,⟨c,e,h0,hm,Nat.lt_of_lt_of_le ha f.size,λj hj=>?_⟩,λe'=>hn (hx a ha e')⟩;obtain ⟨z,hz⟩:=hcl j hj;exact ⟨z,(f.cell (p:=⟨a,j,none⟩) ha (λe'=>hn (hc a e'))).trans hz⟩
structure AdV (b0 hl B n:Nat) (code:List In) (t:List UInt8) (p:Nat) (Q:Int->Prop) (w0:World) (v0:Value) (S0:Int->Bool) (first:Int) (wx:World) (v8:Value) (T:List Pw) (sv:Value) (k:Nat) (v:Value) (W:List Pw) (Wn:List Nat) (S:Int->Bool) (nB:Nat):Prop where
 hk:k<code.length
 hl0:hl<w0.heap.size
 hB0:B<w0.heap.size
 wl1:W.length<nB
 ls:LsM b0 hl B nB wx v W S
 own:wx.ownsRow w0.heap.size 128 2 v8 T.length (pwc T)
 nv:v8.ownBlock≠v.ownBlock\/v8.ownBlock=none
 pT:∀x∈T,PlX (λk=>k=hl\/k=B\/some k=v.ownBlock\/some k=v8.ownBlock) wx x.sv
 px:PlX (λk=>k=hl\/k=B\/some k=v.ownBlock\/some k=v8.ownBlock) wx sv
 pW:∀x∈W,PlX (λk=>some k=v8.ownBlock) wx x.sv
 wn:W.map (·.pc)=Wn.map (λk:Nat=>(k:Int))
 law:PkA code t p Q S (if code[k].op=1\/code[k].op=7 then Wn++[k] else Wn) (T.map (·.pc)++succE code t k p)
 ini:InR code first->S first=true\/first∈T.map (·.pc)
 mono:∀x,S0 x=true->S x=true
 fr:FrX (exA hl B v0) w0 wx
 vn:v.ownBlock=v0.ownBlock\/∃k,v.ownBlock=some k/\w0.heap.size<=k
section
variable {b0 hl B n:Nat} {code:List In} {t:List UInt8} {p:Nat} {Q:Int->Prop} {w0:World} {v0:Value} {S0:Int->Bool} {first:Int} {wx:World} {v8:Value} {T:List Pw} {sv:Value} {k:Nat} {v:Value} {W:List Pw} {Wn:List Nat} {S:Int->Bool} {nB:Nat}
theorem AdV.row8 (I:AdV b0 hl B n code t p Q w0 v0 S0 first wx v8 T sv k v W Wn S nB) {g:Nat} (h:v8.ownBlock=some g):w0.heap.size<=g/\g<wx.heap.size/\g≠hl/\g≠B/\v.ownBlock≠some g:=by
 obtain ⟨h1,h2⟩:=I.own.lt g h;have h3:=I.hl0;have h4:=I.hB0;refine ⟨h1,h2,by omega,by omega,λe=>?_⟩;rcases I.nv with h5|h5
 ·exact h5 (h.trans e.symm)
 ·rw[h] at h5;cases h5
theorem AdV.gr {wy:World} (I:AdV b0 hl B n code t p Q w0 v0 S0 first wx v8 T sv k v W Wn S nB) (g:Gr wx wy):AdV b0 hl B n code t p Q w0 v0 S0 first wy v8 T sv k v W Wn S nB:=
 ⟨I.hk,I.hl0,I.hB0,I.wl1,I.ls.gr g,own_grU I.own g,I.nv,λx hx=>(I.pT x hx).new g (λ_ _ e=>e),I.px.new g (λ_ _ e=>e),λx hx=>(I.pW x hx).new g (λ_ _ e=>e),I.wn,I.law,I.ini,I.mono,I.fr.trans (FrX.gr g),I.vn⟩
theorem AdR.visit {wr w10 w11:World} {g cv:Nat} (I:AdR b0 hl B n code t p Q w0 v0 S0 first wr (.slice (some ⟨g,0,none⟩) (T.length+1) cv) (T++[⟨sv,(k:Int)⟩]) v W Wn S nB) (hk:k<code.length) (hl0:hl<w0.heap.size) (hB0:B<w0.heap.size)
  (hQ:∀(k:Nat) x,Q k->x∈succE code t k p->Q x) (g10:Gr wr w10) (hg:w10.grownBy w11 (some B)) (hm:MpB w11 B (nB+1) (λa=>a==(k:Int)||S a)) :
  AdV b0 hl B n code t p Q w0 v0 S0 first w11 (.slice (some ⟨g,0,none⟩) T.length cv) T sv k v W Wn (λa=>a==(k:Int)||S a) (nB+1):=by
 have f11:FrX (λx=>x=B) w10 w11:=FrX.grown hg (λx e=>by injection e with e;exact e.symm);have hown:=I.own;rw[List.length_append,List.length_singleton,pwc_append] at hown;have hown10:=own_grU (own_pop' hown (pwc_length T)) g10;have hgB:g≠B:=by have:=(hown10.lt g rfl).1;omega
 have L10:=I.ls.gr g10;have hlaw:=I.law;rw[List.map_append] at hlaw;have hW10:∀x∈W,PlX (λk=>k=hl\/k=B\/some k=v.ownBlock\/some k=(Value.slice (some ⟨g,0,none⟩) T.length cv).ownBlock) w10 x.sv:=λx hx=>by
  obtain ⟨a,m,hp,hn⟩:=I.ls.pl x hx;obtain ⟨a',m',hp',hn'⟩:=I.pW x hx;have e1:a'=a:=by
   obtain ⟨c,e,_⟩:=hp;obtain ⟨c',e',_⟩:=hp';rw[e] at e';injection e' with e' _ _;injection e' with e';injection e' with e' _ _;exact e'.symm
  subst e1;refine ⟨a',m,hp.gr g10,λe=>?_⟩;rcases e with e|e|e|e
  ·exact hn (.inl e)
  ·exact hn (.inr (.inl e))
  ·exact hn (.inr (.inr e))
  ·exact hn' e
 refine ⟨hk,hl0,hB0,Nat.lt_succ_of_le L10.wl,⟨?_,?_,?_,Nat.lt_of_lt_of_le L10.hz f11.size,L10.ne,hm,own_fr L10.own f11 (λx hx e=>L10.nv.2 (by rw[hx,e])),L10.nv,λx hx=>(hW10 x hx).go f11 (λ_ e=> .inr (.inl e)) (λy _ e=>?_),Nat.le_succ_of_le L10.wl⟩,own_fr hown10 f11 (λx hx e=>?_),I.nv,λx hx=>?_,?_,λx hx=>?_,I.wn,hlaw.visit hk (λx h1 h2=>hQ k x h1 h2),λhi=>?_,λx hx=>?_,(I.fr.trans (FrX.gr g10)).trans (f11.mono (λx e=> .inr (.inl e))),I.vn⟩
 ·exact (f11.cell (p:=⟨hl,0,none⟩) L10.hz L10.ne).trans L10.c0
 ·exact (f11.frozen (p:=⟨hl,0,none⟩) L10.hz L10.ne).trans L10.f0
 ·exact (f11.cell (p:=⟨hl,1,none⟩) L10.hz L10.ne).trans L10.c1
 ·rcases e with e|e|e
  ·exact .inl e
  ·exact .inr (.inl e)
  ·exact .inr (.inr (.inl e))
 ·injection hx with hx;exact hgB (hx.trans e)
 ·exact ((I.pT x (List.mem_append_left _ hx)).new g10 (λ_ _ e=>e)).go f11 (λ_ e=> .inr (.inl e)) (λ_ _ e=>e)
 ·exact ((I.pT ⟨sv,(k:Int)⟩ (List.mem_append_right _ (List.mem_singleton.2 rfl))).new g10 (λ_ _ e=>e)).go f11 (λ_ e=> .inr (.inl e)) (λ_ _ e=>e)
 ·exact (hW10 x hx).go f11 (λ_ e=> .inr (.inl e)) (λ_ _ e=> .inr (.inr (.inr e)))
 ·rcases I.ini hi with h1|h1
  ·exact .inl (by rw[h1,Bool.or_true])
  ·rw[List.map_append] at h1;rcases List.mem_append.1 h1 with h2|h2
   ·exact .inr h2
   ·simp only[List.map_cons,List.map_nil,List.mem_singleton] at h2;exact .inl (by rw[h2];simp)
 ·rw[I.mono x hx,Bool.or_true]
theorem AdV.nought (I:AdV b0 hl B n code t p Q w0 v0 S0 first wx v8 T sv k v W Wn S nB) (h:¬((code[k]'I.hk).op=1\/(code[k]'I.hk).op=7)) (he:succE code t k p=[]):AdR b0 hl B n code t p Q w0 v0 S0 first wx v8 T v W Wn S nB:=by
 have hlaw:=I.law;rw[if_neg h,he,List.append_nil] at hlaw;exact ⟨I.ls,I.own,I.nv,I.pT,I.pW,I.wn,hlaw,I.ini,I.mono,I.fr,I.vn⟩
theorem AdV.push {w2:World} {v9:Value} {news:List Pw} (I:AdV b0 hl B n code t p Q w0 v0 S0 first wx v8 T sv k v W Wn S nB) (h:¬((code[k]'I.hk).op=1\/(code[k]'I.hk).op=7)) (he:succE code t k p=news.map (·.pc))
  (hp:∀x∈news,PlX (λk=>k=hl\/k=B\/some k=v.ownBlock\/some k=v8.ownBlock) wx x.sv) (own2:w2.ownsRow w0.heap.size 128 2 v9 (T.length+news.length) (pwc T++pwc news))
  (hg:wx.grownBy w2 v8.ownBlock) (hat:v9.ownBlock=v8.ownBlock\/v9.ownBlock=some wx.heap.size):AdR b0 hl B n code t p Q w0 v0 S0 first w2 v9 (T++news) v W Wn S nB:=by
 have f2:FrX (λx=>some x=v8.ownBlock) wx w2:=FrX.grown hg (λx e=>e.symm);have hlaw:=I.law;rw[if_neg h,he,<-List.map_append] at hlaw;have hx9:∀x,x<wx.heap.size->some x=v9.ownBlock->some x=v8.ownBlock:=λx hx e=>by
  rcases hat with e2|e2
  ·rw[<-e2];exact e
  ·rw[e2] at e;injection e with e;omega
 have keep:∀s,PlX (λk=>k=hl\/k=B\/some k=v.ownBlock\/some k=v8.ownBlock) wx s->PlX (λk=>k=hl\/k=B\/some k=v.ownBlock\/some k=v9.ownBlock) w2 s:=λs hs=>
  hs.go f2 (λ_ e=> .inr (.inr (.inr e))) (λx hx e=>by
   rcases e with e|e|e|e
   ·exact .inl e
   ·exact .inr (.inl e)
   ·exact .inr (.inr (.inl e))
   ·exact .inr (.inr (.inr (hx9 x hx e))))
 have nhl:¬(some hl=v8.ownBlock):=λe=>(I.row8 e.symm).2.2.1 rfl;have nB':¬(some B=v8.ownBlock):=λe=>(I.row8 e.symm).2.2.2.1 rfl;have nvv:∀x,v.ownBlock=some x->¬(some x=v8.ownBlock):=λx hx e=>(I.row8 e.symm).2.2.2.2 hx;refine ⟨⟨(f2.cell (p:=⟨hl,0,none⟩) I.ls.hz nhl).trans I.ls.c0,(f2.frozen (p:=⟨hl,0,none⟩) I.ls.hz nhl).trans I.ls.f0,(f2.cell (p:=⟨hl,1,none⟩) I.ls.hz nhl).trans I.ls.c1,Nat.lt_of_lt_of_le I.ls.hz f2.size,I.ls.ne,I.ls.mp.fr f2 nB',own_fr I.ls.own f2 nvv,I.ls.nv,λx hx=>?_,I.ls.wl⟩,
  by rw[pwc_append,List.length_append];exact own2,?_,λx hx=>?_,λx hx=>?_,I.wn,hlaw,λhi=>?_,I.mono,(f2.since I.fr (λx hx e=>?_)),I.vn⟩
 ·obtain ⟨a,m,hp,hn⟩:=I.ls.pl x hx;obtain ⟨a',m',hp',hn'⟩:=I.pW x hx;obtain ⟨c,e,h0,hm,ha,hc⟩:=hp;obtain ⟨c',e',_⟩:=hp';rw[e] at e';injection e' with e' _ _;injection e' with e';injection e' with e' _ _;subst e';exact ⟨a,m,⟨c,e,h0,hm,Nat.lt_of_lt_of_le ha f2.size,λj hj=>by
   obtain ⟨z,hz⟩:=hc j hj;exact ⟨z,(f2.cell (p:=⟨a,j,none⟩) ha hn').trans hz⟩⟩,hn⟩
 ·rcases hat with e|e
  ·rw[e];exact I.nv
  ·refine .inl (λe2=>?_);rw[e] at e2;have:=(I.ls.own.lt _ e2.symm).2;omega
 ·rcases List.mem_append.1 hx with h1|h1
  ·exact keep _ (I.pT x h1)
  ·exact keep _ (hp x h1)
 ·exact (I.pW x hx).go f2 (λ_ e=>e) hx9
 ·rcases I.ini hi with h1|h1
  ·exact .inl h1
  ·exact .inr (by rw[List.map_append];exact List.mem_append_left _ h1)
 ·have:=(I.row8 e.symm).1;omega
theorem AdV.keep {w2:World} {v9:Value} (I:AdV b0 hl B n code t p Q w0 v0 S0 first wx v8 T sv k v W Wn S nB) (h:(code[k]'I.hk).op=1\/(code[k]'I.hk).op=7) (he:succE code t k p=[])
  (own2:w2.ownsRow b0 128 2 v9 (W.length+1) (pwc W++[sv, .int .i64 (k:Int)])) (hb0:b0<=w0.heap.size)
  (hg:wx.grownBy w2 v.ownBlock) (hat:v9.ownBlock=v.ownBlock\/v9.ownBlock=some wx.heap.size):AdR b0 hl B n code t p Q w0 v0 S0 first (w2.setCell ⟨hl,0,none⟩ v9) v8 T v9 (W++[⟨sv,(k:Int)⟩]) (Wn++[k]) S nB:=by
 have f2:FrX (λx=>some x=v.ownBlock) wx w2:=FrX.grown hg (λx e=>e.symm);have f3:FrX (λx=>x=hl) w2 (w2.setCell ⟨hl,0,none⟩ v9):=FrX.set (ex:=λx=>x=hl) w2 (a:=⟨hl,0,none⟩) rfl v9;have f4:FrX (λx=>x=hl\/some x=v.ownBlock) wx (w2.setCell ⟨hl,0,none⟩ v9):=(f2.mono (λ_ e=> .inr e)).trans (f3.mono (λ_ e=> .inl e));have hlaw:=I.law;rw[if_pos h,he,List.append_nil] at hlaw;have hx9:∀x,x<wx.heap.size->some x=v9.ownBlock->some x=v.ownBlock:=λx hx e=>by
  rcases hat with e2|e2
  ·rw[<-e2];exact e
  ·rw[e2] at e;injection e with e;omega
 have hlz:=I.ls.hz;have hBz:=I.ls.mp.lt;have nhl:¬(some hl=v.ownBlock):=λe=>I.ls.nv.1 e.symm;have nB':¬(some B=v.ownBlock):=λe=>I.ls.nv.2 e.symm;have n9:v9.ownBlock≠some hl/\v9.ownBlock≠some B:=by
  rcases hat with e|e
  ·rw[e];exact I.ls.nv
  ·rw[e];exact ⟨λe=>by injection e with e;omega,λe=>by injection e with e;omega⟩
 have c02:w2.cell? ⟨hl,0,none⟩=some v:=(f2.cell (p:=⟨hl,0,none⟩) hlz nhl).trans I.ls.c0;have nv8:∀x,v8.ownBlock=some x->¬(x=hl\/some x=v.ownBlock):=λx hx e=>by
  obtain ⟨-, -,h3, -,h5⟩:=I.row8 hx;rcases e with e|e
  ·exact h3 e
  ·exact h5 e.symm
 refine ⟨⟨?_,?_,?_,?_,I.ls.ne,I.ls.mp.fr f4 (λe=>?_),?_,n9,λx hx=>?_,by rw[List.length_append];exact I.wl1⟩,own_fr I.own f4 nv8,?_,λx hx=>?_,λx hx=>?_,?_,hlaw,I.ini,I.mono,f4.since I.fr (λx hx e=>?_),?_⟩
 ·exact World.cell?_setCell_same' _ _ _ (by rw[c02];rfl)
 ·rw[World.frozen?_setCell];exact (f2.frozen (p:=⟨hl,0,none⟩) hlz nhl).trans I.ls.f0
 ·rw[World.cell?_setCell_other w2 ⟨hl,0,none⟩ ⟨hl,1,none⟩ _ (by first|(simp;done)|(simp;omega))];exact (f2.cell (p:=⟨hl,1,none⟩) hlz nhl).trans I.ls.c1
 ·exact Nat.lt_of_lt_of_le hlz f4.size
 ·rcases e with e|e
  ·exact I.ls.ne e.symm
  ·exact nB' e
 ·rw[pwc_append,List.length_append];exact own_fr own2 f3 (λx hx e=>n9.1 (by rw[hx,e]))
 ·rcases List.mem_append.1 hx with h1|h1
  ·exact (I.ls.pl x h1).go f4 (λy e=>by
    rcases e with e|e
    ·exact .inl e
    ·exact .inr (.inr e)) (λy hy e=>by
    rcases e with e|e|e
    ·exact .inl e
    ·exact .inr (.inl e)
    ·exact .inr (.inr (hx9 y hy e)))
  ·rw[List.mem_singleton] at h1;subst h1;exact I.px.go f4 (λy e=>by
    rcases e with e|e
    ·exact .inl e
    ·exact .inr (.inr (.inl e))) (λy hy e=>by
    rcases e with e|e|e
    ·exact .inl e
    ·exact .inr (.inl e)
    ·exact .inr (.inr (.inl (hx9 y hy e))))
 ·rcases hat with e|e
  ·rw[e];exact I.nv
  ·refine .inl (λe2=>?_);rw[e] at e2;have:=(I.row8 e2).2.1;omega
 ·exact (I.pT x hx).go f4 (λy e=>by
   rcases e with e|e
   ·exact .inl e
   ·exact .inr (.inr (.inl e))) (λy hy e=>by
   rcases e with e|e|e|e
   ·exact .inl e
   ·exact .inr (.inl e)
   ·exact .inr (.inr (.inl (hx9 y hy e)))
   ·exact .inr (.inr (.inr e)))
 ·rcases List.mem_append.1 hx with h1|h1
  ·obtain ⟨a,m,hp,hn⟩:=I.ls.pl x h1;obtain ⟨a',m',hp',hn'⟩:=I.pW x h1;obtain ⟨c,e,h0,hm,ha,hc⟩:=hp;obtain ⟨c',e',_⟩:=hp';rw[e] at e';injection e' with e' _ _;injection e' with e';injection e' with e' _ _;subst e';exact ⟨a,m,⟨c,e,h0,hm,Nat.lt_of_lt_of_le ha f4.size,λj hj=>by
    obtain ⟨z,hz⟩:=hc j hj;exact ⟨z,(f4.cell (p:=⟨a,j,none⟩) ha (λe2=>hn (by
     rcases e2 with e2|e2
     ·exact .inl e2
     ·exact .inr (.inr e2)))).trans hz⟩⟩,hn'⟩
  ·rw[List.mem_singleton] at h1;subst h1;exact I.px.go f4 (λy e=>by
    rcases e with e|e
    ·exact .inl e
    ·exact .inr (.inr (.inl e))) (λy hy e=> .inr (.inr (.inr e)))
 ·rw[List.map_append,List.map_append,I.wn];rfl
 ·rcases e with e|e
  ·exact .inl e
  ·rcases I.vn with e2|⟨y,e2,hy⟩
   ·exact .inr (.inr (by rw[<-e2];exact e))
   ·rw[e2] at e;injection e with e;omega
 ·rcases hat with e|e
  ·rw[e];exact I.vn
  ·exact .inr ⟨_,e,Nat.le_trans I.fr.size (Nat.le_refl _)⟩
end
theorem AdV.withs {b0 hl B n:Nat} {code:List In} {t:List UInt8} {p:Nat} {Q:Int->Prop} {w0:World} {v0:Value} {S0:Int->Bool} {first:Int} {wx:World} {v8:Value} {T:List Pw} {sv:Value} {k:Nat} {v:Value} {W:List Pw} {Wn:List Nat} {S:Int->Bool} {nB:Nat}
  (I:AdV b0 hl B n code t p Q w0 v0 S0 first wx v8 T sv k v W Wn S nB) {wy:World} {s':Value} {a a' m:Nat} (hP:Plc wy s' a' m) (hn:¬(a=hl\/a=B\/some a=v.ownBlock\/some a=v8.ownBlock)) (ha:a'=a\/wx.heap.size<=a'):PlX (λk=>k=hl\/k=B\/some k=v.ownBlock\/some k=v8.ownBlock) wy s':=by
 refine ⟨a',m,hP,λe=>?_⟩;rcases ha with h|h
 ·subst h;exact hn e
 ·have h1:=I.ls.hz;have h2:=I.ls.mp.lt;rcases e with e|e|e|e
  ·omega
  ·omega
  ·have:=(I.ls.own.lt _ e.symm).2;omega
  ·have:=(I.own.lt _ e.symm).2;omega
def RelAd (b0 hl B n:Nat) (code:List In) (t:List UInt8) (p:Nat) (Q:Int->Prop) (w0:World) (v0:Value) (S0:Int->Bool) (nB0:Nat) (first:Int) (v8:Value) (wr:World):Prop:=
 ∃(T:List Pw) (v':Value) (W':List Pw) (Wn':List Nat) (S':Int->Bool) (nB':Nat),AdR b0 hl B n code t p Q w0 v0 S0 first wr v8 T v' W' Wn' S' nB'/\T.length+2*unseenP S' n<=2*n+1/\nB'+unseenP S' n=nB0+unseenP S0 n
theorem unseenP_visit {S:Int->Bool} {n k:Nat} (hk:k<n) (h:S (k:Int)=false):unseenP (λa=>a==(k:Int)||S a) n+1=unseenP S n:=by
 have h1:=unseen_visit (σ:=λj:Nat=>S (j:Int)) hk h;have e:(λj:Nat=>(j==k||S (j:Int)))=λj:Nat=>((j:Int)==(k:Int)||S (j:Int)):=by
  funext j
  congr 1
  rw[Bool.eq_iff_iff];simp;omega
 rw[e] at h1;exact h1
theorem AdR.own_len {b0 hl B n:Nat} {code:List In} {t:List UInt8} {p:Nat} {Q:Int->Prop} {w0:World} {v0:Value} {S0:Int->Bool} {first:Int} {wr:World} {v8:Value} {T:List Pw} {v:Value} {W:List Pw} {Wn:List Nat} {S:Int->Bool} {nB:Nat} (I:AdR b0 hl B n code t p Q w0 v0 S0 first wr v8 T v W Wn S nB):lenP v8=T.length:=by
 obtain ⟨h1,⟨hv,h0⟩|⟨g',cap,cur,hv,_⟩⟩:=I.own
 ·rw[hv,h0];rfl
 ·rw[hv];rfl
theorem AdR.fin {b0 hl B n:Nat} {code:List In} {t:List UInt8} {p:Nat} {Q:Int->Prop} {w0:World} {v0:Value} {S0:Int->Bool} {nB0:Nat} {first:Int} {wr w2:World} {v9:Value} {T':List Pw} {T m k:Nat} {v:Value} {W:List Pw} {Wn:List Nat} {S:Int->Bool} {nB:Nat}
  (I:AdR b0 hl B n code t p Q w0 v0 S0 first w2 v9 T' v W Wn (λa=>a==(k:Int)||S a) (nB+1)) (hk:k<n) (hn:n<=2000) (hs:S (k:Int)=false) (hm:MpB wr B nB S) (hlen:T+1+2*unseenP S n<=2*n+1) (hnB:nB+unseenP S n=nB0+unseenP S0 n) (hT:T'.length=T+m) (hm2:m<=2) :
  RelAd b0 hl B n code t p Q w0 v0 S0 nB0 first v9 w2/\3*unseenPW B n w2+lenP v9<3*unseenPW B n wr+(T+1):=by
 have h1:=unseenP_visit hk hs;refine ⟨⟨T',v,W,Wn,_,nB+1,I,by omega,by omega⟩,?_⟩;rw[I.ls.mp.unseen hn,hm.unseen hn,I.own_len];omega
end
open Go.RowKit
def Svo (wr:World) (B1:Nat) (v s:Value):Prop:=
 ∃a m c,s= .slice (some ⟨a,0,none⟩) m c/\0<m/\m<=3000/\a<wr.heap.size/\a≠B1/\some a≠v.ownBlock/\∀j,j<m->∃z:Int,wr.cell? ⟨a,j,none⟩=some (.int .i64 z)
structure PrM (w:World) (h G n cA B1 N:Nat) (A:Option Addr) (wr:World) (v:Value) (T:List Wy) (σ:Nat->Bool):Prop where
 gr:Gr w wr
 b0:wr.cell? ⟨h,0,none⟩=some (.int .i64 G)
 b1:wr.cell? ⟨h,1,none⟩=some (.slice A n cA)
 seen:∀j,j<N->wr.cell? ⟨B1,j,none⟩=some (.bool (σ j))/\wr.frozen? ⟨B1,j,none⟩=false
 hB:h<B1/\B1<wr.heap.size
 own:wr.ownsRow (B1+1) 199 3 v T.length (wyc T)
 sv:∀x∈T,Svo wr B1 v x.sv
theorem Svo.gr {wr wr':World} {B1:Nat} {v s:Value} (h:Svo wr B1 v s) (g:Gr wr wr'):Svo wr' B1 v s:=by
 obtain ⟨a,m,c,e,h0,hm,ha,h1,h2,hc⟩:=h;exact ⟨a,m,c,e,h0,hm,Nat.lt_of_lt_of_le ha g.size,h1,h2,λj hj=>by
  obtain ⟨z,hz⟩:=hc j hj;exact ⟨z,(bc g ha hz)⟩⟩
theorem PrM.gr' {w:World} {h G n cA B1 N:Nat} {A:Option Addr} {wr wr':World} {v:Value} {T:List Wy} {σ:Nat->Bool} (I:PrM w h G n cA B1 N A wr v T σ) (g:Gr wr wr'):PrM w h G n cA B1 N A wr' v T σ:=
 ⟨I.gr.trans g,(bc g (Nat.lt_trans I.hB.1 I.hB.2) I.b0),(bc g (Nat.lt_trans I.hB.1 I.hB.2) I.b1),
  λj hj=>⟨(bc g I.hB.2 (I.seen j hj).1),(bf g I.hB.2 (I.seen j hj).2)⟩,
  ⟨I.hB.1,Nat.lt_of_lt_of_le I.hB.2 g.size⟩,own_grU I.own g,λx hx=>(I.sv x hx).gr g⟩
theorem PrM.see {w:World} {h G n cA B1 N:Nat} {A:Option Addr} {wr:World} {v:Value} {T:List Wy} {σ:Nat->Bool} (I:PrM w h G n cA B1 N A wr v T σ) (hw:w.heap.size<=h) (m:Nat) (hm:m<N) :
  PrM w h G n cA B1 N A (wr.setCell ⟨B1,m,none⟩ (.bool true)) v T (λj=>j==m||σ j):=by
 have hB:=I.hB;refine ⟨I.gr.setCell (by show w.heap.size<=B1;omega) _,?_,?_,λj hj=>⟨?_,by rw[World.frozen?_setCell];exact (I.seen j hj).2⟩,⟨hB.1,by simpa using hB.2⟩,own_setU I.own (Nat.lt_succ_self _) _,λx hx=>?_⟩
 ·rw[World.cell?_setCell_other wr ⟨B1,m,none⟩ ⟨h,0,none⟩ _ (by first|(simp;done)|(simp;omega))];exact I.b0
 ·rw[World.cell?_setCell_other wr ⟨B1,m,none⟩ ⟨h,1,none⟩ _ (by first|(simp;done)|(simp;omega))];exact I.b1
 ·by_cases e:j=m
  ·subst e;rw[World.cell?_setCell_same' _ _ _ (by rw[(I.seen j hj).1];rfl)];simp
  ·rw[World.cell?_setCell_other wr ⟨B1,m,none⟩ ⟨B1,j,none⟩ _ (by first|(simp;done)|(simp;omega)),(I.seen j hj).1];have:(j==m)=false:=beq_eq_false_iff_ne.2 e;simp only[this,Bool.false_or]
 ·obtain ⟨a,k,c,e,h0,hk,ha,h1,h2,hc⟩:=I.sv x hx;refine ⟨a,k,c,e,h0,hk,by simpa using ha,h1,h2,λj hj=>?_⟩;obtain ⟨z,hz⟩:=hc j hj;exact ⟨z,by rw[World.cell?_setCell_other wr ⟨B1,m,none⟩ ⟨a,j,none⟩ _ (by first|(simp;done)|(simp;omega))];exact hz⟩
theorem own_pop {w:World} {base:Nat} {e:TypeId} {size n c g:Nat} {xs ys:List Value} (h:w.ownsRow base e size (.slice (some ⟨g,0,none⟩) (n+1) c) (n+1) (xs++ys)) (hx:xs.length=n*size):w.ownsRow base e size (.slice (some ⟨g,0,none⟩) n c) n xs:=by
 obtain ⟨h1,⟨hv,h0⟩|⟨g',cap,cur,hv,hb,hh,h2,h3,h4,h5⟩⟩:=h
 ·cases h0
 ·injection hv with hv1 hv2 hv3;subst hv3;refine ⟨hx, .inr ⟨g',c,cur,by rw[hv1],hb,hh,by omega,h3,h4,?_⟩⟩;have:cur.toList.take (n*size)=(cur.toList.take ((n+1)*size)).take (n*size):=by rw[List.take_take,Nat.min_eq_left (Nat.mul_le_mul_right _ (Nat.le_succ n))]
  rw[this,h5,List.take_left' hx]
theorem PrM.pop {w:World} {h G n cA B1 N:Nat} {A:Option Addr} {wr:World} {g c:Nat} {T:List Wy} {x:Wy} {σ:Nat->Bool} (I:PrM w h G n cA B1 N A wr (.slice (some ⟨g,0,none⟩) (T.length+1) c) (T++[x]) σ):PrM w h G n cA B1 N A wr (.slice (some ⟨g,0,none⟩) T.length c) T σ:=by
 refine ⟨I.gr,I.b0,I.b1,I.seen,I.hB,?_,λy hy=>I.sv y (List.mem_append_left _ hy)⟩;have:=I.own;rw[wyc_append,List.length_append] at this;exact own_pop this (wyc_length T)
theorem PrM.push {w:World} {h G n cA B1 N:Nat} {A:Option Addr} {wr w2:World} {v v':Value} {T news:List Wy} {σ:Nat->Bool} {o:Obj} (I:PrM w h G n cA B1 N A wr v T σ) (hw:w.heap.size<=h) (hs:∀x∈news,Svo wr B1 v x.sv)
  (own2:w2.ownsRow (B1+1) 199 3 v' (T.length+news.length) (wyc T++wyc news)) (hg:(wr.alloc o).grownBy w2 v.ownBlock) (hat:v'.ownBlock=v.ownBlock\/v'.ownBlock=some (wr.alloc o).heap.size) :
  PrM w h G n cA B1 N A w2 v' (T++news) σ:=by
 have hB:=I.hB;have keep:∀x,x<wr.heap.size->some x≠v.ownBlock->w2.heap[x]?=wr.heap[x]?:=λx hx hne=>(hg.block x (by simp;omega) hne).trans (heap_alloc_old _ _ hx);have low:∀x,x<B1+1->some x≠v.ownBlock:=λx hx e=>by have:=(I.own.lt x e.symm).1;omega
 have sz:wr.heap.size<w2.heap.size:=by have:=hg.size;simp at this;omega
 have svk:∀s,Svo wr B1 v s->Svo w2 B1 v' s:=by
  rintro s ⟨a,m,c,e,h0,hm,ha,h1,h2,hc⟩;refine ⟨a,m,c,e,h0,hm,by omega,h1,?_,λj hj=>?_⟩
  ·rcases hat with e2|e2
   ·rw[e2];exact h2
   ·rw[e2];simp;omega
  ·obtain ⟨z,hz⟩:=hc j hj;exact ⟨z,(World.cell?_of_block (keep a ha h2)).trans hz⟩
 refine ⟨Gr.grown (Gr.alloc I.gr _) hg (λk hk=>by have:=(I.own.lt k hk).1;omega),(World.cell?_of_block (keep h (by omega) (low h (by omega)))).trans I.b0,(World.cell?_of_block (keep h (by omega) (low h (by omega)))).trans I.b1,
  λj hj=>⟨(World.cell?_of_block (keep B1 (by omega) (low B1 (by omega)))).trans (I.seen j hj).1,(World.frozen?_of_block (keep B1 (by omega) (low B1 (by omega)))).trans (I.seen j hj).2⟩,⟨hB.1,by omega⟩,?_,λx hx=>?_⟩
 ·rw[wyc_append,List.length_append];exact own2
 ·rcases List.mem_append.1 hx with h1|h1
  ·exact svk _ (I.sv x h1)
  ·exact svk _ (hs x h1)
end Go.Proofs.YtjapddfnpmlifaaGreatDoor
