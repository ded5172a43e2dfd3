import Derived.Test.YtnphdacibageiaaGreatRunPkLaw
import Derived.Test.YtnphdacibageiaaGreatRunFpRow
import Derived.Deep.Light
import Derived.StillTail
import Derived.Test.YtnphdacibageiaaGreatRunFxBase
set_option linter.all false
set_option maxRecDepth 1000000
set_option maxHeartbeats 12800000
namespace Go.Proofs.YtnphdacibageiaaGreat
section
open Go.RowKit Go.Maps
theorem FrX.grown {ex:Nat→Prop} {w w':World} {row:Option Nat} (hg:w.grownBy w' row) (h:∀k,row=some k→ex k):FrX ex w w':=
 ⟨hg.os,hg.tape,hg.output,hg.size,fun k hk hn=>hg.block k hk (fun e=>hn (h k e.symm))⟩
theorem FrX.set {ex:Nat→Prop} (w:World) {a:Addr} (h:ex a.block) (u:Value):FrX ex w (w.setCell a u):=
 ⟨rfl,rfl,rfl,by simp,fun k hk hn=>Below.heap_setCell w a u k (fun e=>hn (e▸h))⟩
theorem FrX.mono {ex ex':Nat→Prop} {w w':World} (h:FrX ex w w') (hx:∀k,ex k→ex' k):FrX ex' w w':=
 ⟨h.os,h.tape,h.output,h.size,fun k hk hn=>h.block k hk (fun e=>hn (hx k e))⟩
theorem FrX.since {ex ex':Nat→Prop} {w0 w w':World} (f:FrX ex' w w') (h:FrX ex w0 w) (hx:∀k,k<w0.heap.size→ex' k→ex k):FrX ex w0 w':=
 ⟨f.os.trans h.os,f.tape.trans h.tape,f.output.trans h.output,Nat.le_trans h.size f.size,fun k hk hn=>(f.block k (Nat.lt_of_lt_of_le hk h.size) (fun e=>hn (hx k hk e))).trans (h.block k hk hn)⟩
theorem own_fr {ex:Nat→Prop} {w w':World} {base:Nat} {e:TypeId} {size n:Nat} {v:Value} {xs:List Value} (h:w.ownsRow base e size v n xs) (f:FrX ex w w') (hn:∀k,v.ownBlock=some k→¬ex k):w'.ownsRow base e size v n xs:=by
 have hlt:=h.lt
 obtain ⟨h1,⟨hv,h0⟩|⟨g',cap,cur,hv,hb,hh,h2⟩⟩:=h
 ·
  exact ⟨h1, .inl ⟨hv,h0⟩⟩
 ·
  have ho:v.ownBlock=some g':=by rw[hv];rfl
  exact ⟨h1, .inr ⟨g',cap,cur,hv,hb,(f.block g' (hlt g' ho).2 (hn g' ho)).trans hh,h2⟩⟩
theorem MpB.fr {ex:Nat→Prop} {w w':World} {B n:Nat} {S:Int→Bool} (h:MpB w B n S) (f:FrX ex w w') (hn:¬ex B):MpB w' B n S:=by
 have hlt:=h.lt
 obtain ⟨D,⟨es,clock,hb,F,hs,hD⟩,h2,h3⟩:=h
 exact ⟨D,⟨es,clock,(f.block B hlt hn).trans hb,F,hs,hD⟩,h2,h3⟩
theorem Ri.fr {ex:Nat→Prop} {w w':World} {A:Option Addr} {l:List In} (h:Ri w A l) (f:FrX ex w w') (hn:0<l.length→∀ad,A=some ad→¬ex ad.block):Ri w' A l:=by
 refine ⟨h.1,fun h0=>?_⟩
 obtain ⟨ad,e,hb,hc⟩:=h.2 h0
 refine ⟨ad,e,Nat.lt_of_lt_of_le hb f.size,fun j u hu=>?_⟩
 have hab:(ad.add j).block=ad.block:=by unfold Addr.add;split<;>rfl
 rw[f.cell (by rw[hab];exact hb) (by rw[hab];exact hn h0 ad e)]
 exact hc j u hu
theorem PlX.go {ex ex' ch:Nat→Prop} {w w':World} {s:Value} (h:PlX ex w s) (f:FrX ch w w') (hc:∀k,ch k→ex k) (hx:∀k,k<w.heap.size→ex' k→ex k):PlX ex' w' s:=by
 obtain ⟨a,m,⟨c,e,h0,hm,ha,hcl⟩,hn⟩:=h
 refine ⟨a,m,⟨c,e,h0,hm,Nat.lt_of_lt_of_le ha f.size,fun j hj=>?_⟩,fun e'=>hn (hx a ha e')⟩
 obtain ⟨z,hz⟩:=hcl j hj
 exact ⟨z,(f.cell (p:=⟨a,j,none⟩) ha (fun e'=>hn (hc a e'))).trans hz⟩
structure AdV (b0 hl B n:Nat) (code:List In) (t:List UInt8) (p:Nat) (Q:Int→Prop) (w0:World) (v0:Value) (S0:Int→Bool) (first:Int) (wx:World) (v8:Value) (T:List Pw) (sv:Value) (k:Nat) (v:Value) (W:List Pw) (Wn:List Nat) (S:Int→Bool) (nB:Nat):Prop where
 hk:k<code.length
 hl0:hl<w0.heap.size
 hB0:B<w0.heap.size
 wl1:W.length<nB
 ls:LsM b0 hl B nB wx v W S
 own:wx.ownsRow w0.heap.size 128 2 v8 T.length (pwc T)
 nv:v8.ownBlock≠v.ownBlock∨v8.ownBlock=none
 pT:∀x∈T,PlX (fun k=>k=hl∨k=B∨some k=v.ownBlock∨some k=v8.ownBlock) wx x.sv
 px:PlX (fun k=>k=hl∨k=B∨some k=v.ownBlock∨some k=v8.ownBlock) wx sv
 pW:∀x∈W,PlX (fun k=>some k=v8.ownBlock) wx x.sv
 wn:W.map (·.pc)=Wn.map (fun k:Nat=>(k:Int))
 law:PkA code t p Q S (if code[k].op=1∨code[k].op=7 then Wn++[k] else Wn) (T.map (·.pc)++succE code t k p)
 ini:InR code first→S first=true∨first∈T.map (·.pc)
 mono:∀x,S0 x=true→S x=true
 fr:FrX (exA hl B v0) w0 wx
 vn:v.ownBlock=v0.ownBlock∨∃k,v.ownBlock=some k∧w0.heap.size≤k
section
variable {b0 hl B n:Nat} {code:List In} {t:List UInt8} {p:Nat} {Q:Int→Prop} {w0:World} {v0:Value} {S0:Int→Bool} {first:Int} {wx:World} {v8:Value} {T:List Pw} {sv:Value} {k:Nat} {v:Value} {W:List Pw} {Wn:List Nat} {S:Int→Bool} {nB:Nat}
theorem AdV.row8 (I:AdV b0 hl B n code t p Q w0 v0 S0 first wx v8 T sv k v W Wn S nB) {g:Nat} (h:v8.ownBlock=some g):w0.heap.size≤g∧g<wx.heap.size∧g≠hl∧g≠B∧v.ownBlock≠some g:=by
 obtain ⟨h1,h2⟩:=I.own.lt g h
 have h3:=I.hl0
 have h4:=I.hB0
 refine ⟨h1,h2,by omega,by omega,fun e=>?_⟩
 rcases I.nv with h5|h5
 ·
  exact h5 (h.trans e.symm)
 ·
  rw[h] at h5;cases h5
theorem AdV.gr {wy:World} (I:AdV b0 hl B n code t p Q w0 v0 S0 first wx v8 T sv k v W Wn S nB) (g:Gr wx wy):AdV b0 hl B n code t p Q w0 v0 S0 first wy v8 T sv k v W Wn S nB:=
 ⟨I.hk,I.hl0,I.hB0,I.wl1,I.ls.gr g,own_grU I.own g,I.nv,fun x hx=>(I.pT x hx).new g (fun _ _ e=>e),I.px.new g (fun _ _ e=>e),fun x hx=>(I.pW x hx).new g (fun _ _ e=>e),I.wn,I.law,I.ini,I.mono,I.fr.trans (FrX.gr g),I.vn⟩
theorem AdR.visit {wr w10 w11:World} {g cv:Nat} (I:AdR b0 hl B n code t p Q w0 v0 S0 first wr (.slice (some ⟨g,0,none⟩) (T.length+1) cv) (T++[⟨sv,(k:Int)⟩]) v W Wn S nB) (hk:k<code.length) (hl0:hl<w0.heap.size) (hB0:B<w0.heap.size)
  (hQ:∀(k:Nat) x,Q k→x∈succE code t k p→Q x) (g10:Gr wr w10) (hg:w10.grownBy w11 (some B)) (hm:MpB w11 B (nB+1) (fun a=>a==(k:Int)||S a)) :
  AdV b0 hl B n code t p Q w0 v0 S0 first w11 (.slice (some ⟨g,0,none⟩) T.length cv) T sv k v W Wn (fun a=>a==(k:Int)||S a) (nB+1):=by
 have f11:FrX (fun x=>x=B) w10 w11:=FrX.grown hg (fun x e=>by injection e with e;exact e.symm)
 have hown:=I.own
 rw[List.length_append,List.length_singleton,pwc_append] at hown
 have hown10:=own_grU (own_pop' hown (pwc_length T)) g10
 have hgB:g≠B:=by have:=(hown10.lt g rfl).1;omega
 have L10:=I.ls.gr g10
 have hlaw:=I.law
 rw[List.map_append] at hlaw
 have hW10:∀x∈W,PlX (fun k=>k=hl∨k=B∨some k=v.ownBlock∨some k=(Value.slice (some ⟨g,0,none⟩) T.length cv).ownBlock) w10 x.sv:=fun x hx=>by
  obtain ⟨a,m,hp,hn⟩:=I.ls.pl x hx
  obtain ⟨a',m',hp',hn'⟩:=I.pW x hx
  have e1:a'=a:=by
   obtain ⟨c,e,_⟩:=hp
   obtain ⟨c',e',_⟩:=hp'
   rw[e] at e'
   injection e' with e' _ _
   injection e' with e'
   injection e' with e' _ _
   exact e'.symm
  subst e1
  refine ⟨a',m,hp.gr g10,fun e=>?_⟩
  rcases e with e|e|e|e
  ·
   exact hn (.inl e)
  ·
   exact hn (.inr (.inl e))
  ·
   exact hn (.inr (.inr e))
  ·
   exact hn' e
 refine ⟨hk,hl0,hB0,Nat.lt_succ_of_le L10.wl,⟨?_,?_,?_,Nat.lt_of_lt_of_le L10.hz f11.size,L10.ne,hm,own_fr L10.own f11 (fun x hx e=>L10.nv.2 (by rw[hx,e])),L10.nv,fun x hx=>(hW10 x hx).go f11 (fun _ e=> .inr (.inl e)) (fun y _ e=>?_),Nat.le_succ_of_le L10.wl⟩,own_fr hown10 f11 (fun x hx e=>?_),I.nv,fun x hx=>?_,?_,fun x hx=>?_,I.wn,hlaw.visit hk (fun x h1 h2=>hQ k x h1 h2),fun hi=>?_,fun x hx=>?_,(I.fr.trans (FrX.gr g10)).trans (f11.mono (fun x e=> .inr (.inl e))),I.vn⟩
 ·
  exact (f11.cell (p:=⟨hl,0,none⟩) L10.hz L10.ne).trans L10.c0
 ·
  exact (f11.frozen (p:=⟨hl,0,none⟩) L10.hz L10.ne).trans L10.f0
 ·
  exact (f11.cell (p:=⟨hl,1,none⟩) L10.hz L10.ne).trans L10.c1
 ·
  rcases e with e|e|e
  ·
   exact .inl e
  ·
   exact .inr (.inl e)
  ·
   exact .inr (.inr (.inl e))
 ·
  injection hx with hx
  exact hgB (hx.trans e)
 ·
  exact ((I.pT x (List.mem_append_left _ hx)).new g10 (fun _ _ e=>e)).go f11 (fun _ e=> .inr (.inl e)) (fun _ _ e=>e)
 ·
  exact ((I.pT ⟨sv,(k:Int)⟩ (List.mem_append_right _ (List.mem_singleton.2 rfl))).new g10 (fun _ _ e=>e)).go f11 (fun _ e=> .inr (.inl e)) (fun _ _ e=>e)
 ·
  exact (hW10 x hx).go f11 (fun _ e=> .inr (.inl e)) (fun _ _ e=> .inr (.inr (.inr e)))
 ·
  rcases I.ini hi with h1|h1
  ·
   exact .inl (by rw[h1,Bool.or_true])
  ·
   rw[List.map_append] at h1
   rcases List.mem_append.1 h1 with h2|h2
   ·
    exact .inr h2
   ·
    simp only[List.map_cons,List.map_nil,List.mem_singleton] at h2
    exact .inl (by rw[h2];simp)
 ·
  rw[I.mono x hx,Bool.or_true]
theorem AdV.nought (I:AdV b0 hl B n code t p Q w0 v0 S0 first wx v8 T sv k v W Wn S nB) (h:¬((code[k]'I.hk).op=1∨(code[k]'I.hk).op=7)) (he:succE code t k p=[]):AdR b0 hl B n code t p Q w0 v0 S0 first wx v8 T v W Wn S nB:=by
 have hlaw:=I.law
 rw[if_neg h,he,List.append_nil] at hlaw
 exact ⟨I.ls,I.own,I.nv,I.pT,I.pW,I.wn,hlaw,I.ini,I.mono,I.fr,I.vn⟩
theorem AdV.push {w2:World} {v9:Value} {news:List Pw} (I:AdV b0 hl B n code t p Q w0 v0 S0 first wx v8 T sv k v W Wn S nB) (h:¬((code[k]'I.hk).op=1∨(code[k]'I.hk).op=7)) (he:succE code t k p=news.map (·.pc))
  (hp:∀x∈news,PlX (fun k=>k=hl∨k=B∨some k=v.ownBlock∨some k=v8.ownBlock) wx x.sv) (own2:w2.ownsRow w0.heap.size 128 2 v9 (T.length+news.length) (pwc T++pwc news))
  (hg:wx.grownBy w2 v8.ownBlock) (hat:v9.ownBlock=v8.ownBlock∨v9.ownBlock=some wx.heap.size):AdR b0 hl B n code t p Q w0 v0 S0 first w2 v9 (T++news) v W Wn S nB:=by
 have f2:FrX (fun x=>some x=v8.ownBlock) wx w2:=FrX.grown hg (fun x e=>e.symm)
 have hlaw:=I.law
 rw[if_neg h,he,←List.map_append] at hlaw
 have hx9:∀x,x<wx.heap.size→some x=v9.ownBlock→some x=v8.ownBlock:=fun x hx e=>by
  rcases hat with e2|e2
  ·
   rw[←e2];exact e
  ·
   rw[e2] at e;injection e with e;omega
 have keep:∀s,PlX (fun k=>k=hl∨k=B∨some k=v.ownBlock∨some k=v8.ownBlock) wx s→PlX (fun k=>k=hl∨k=B∨some k=v.ownBlock∨some k=v9.ownBlock) w2 s:=fun s hs=>
  hs.go f2 (fun _ e=> .inr (.inr (.inr e))) (fun x hx e=>by
   rcases e with e|e|e|e
   ·
    exact .inl e
   ·
    exact .inr (.inl e)
   ·
    exact .inr (.inr (.inl e))
   ·
    exact .inr (.inr (.inr (hx9 x hx e))))
 have nhl:¬(some hl=v8.ownBlock):=fun e=>(I.row8 e.symm).2.2.1 rfl
 have nB':¬(some B=v8.ownBlock):=fun e=>(I.row8 e.symm).2.2.2.1 rfl
 have nvv:∀x,v.ownBlock=some x→¬(some x=v8.ownBlock):=fun x hx e=>(I.row8 e.symm).2.2.2.2 hx
 refine ⟨⟨(f2.cell (p:=⟨hl,0,none⟩) I.ls.hz nhl).trans I.ls.c0,(f2.frozen (p:=⟨hl,0,none⟩) I.ls.hz nhl).trans I.ls.f0,(f2.cell (p:=⟨hl,1,none⟩) I.ls.hz nhl).trans I.ls.c1,Nat.lt_of_lt_of_le I.ls.hz f2.size,I.ls.ne,I.ls.mp.fr f2 nB',own_fr I.ls.own f2 nvv,I.ls.nv,fun x hx=>?_,I.ls.wl⟩,
  by rw[pwc_append,List.length_append];exact own2,?_,fun x hx=>?_,fun x hx=>?_,I.wn,hlaw,fun hi=>?_,I.mono,(f2.since I.fr (fun x hx e=>?_)),I.vn⟩
 ·
  obtain ⟨a,m,hp,hn⟩:=I.ls.pl x hx
  obtain ⟨a',m',hp',hn'⟩:=I.pW x hx
  obtain ⟨c,e,h0,hm,ha,hc⟩:=hp
  obtain ⟨c',e',_⟩:=hp'
  rw[e] at e'
  injection e' with e' _ _
  injection e' with e'
  injection e' with e' _ _
  subst e'
  exact ⟨a,m,⟨c,e,h0,hm,Nat.lt_of_lt_of_le ha f2.size,fun j hj=>by
   obtain ⟨z,hz⟩:=hc j hj
   exact ⟨z,(f2.cell (p:=⟨a,j,none⟩) ha hn').trans hz⟩⟩,hn⟩
 ·
  rcases hat with e|e
  ·
   rw[e];exact I.nv
  ·
   refine .inl (fun e2=>?_)
   rw[e] at e2
   have:=(I.ls.own.lt _ e2.symm).2
   omega
 ·
  rcases List.mem_append.1 hx with h1|h1
  ·
   exact keep _ (I.pT x h1)
  ·
   exact keep _ (hp x h1)
 ·
  exact (I.pW x hx).go f2 (fun _ e=>e) hx9
 ·
  rcases I.ini hi with h1|h1
  ·
   exact .inl h1
  ·
   exact .inr (by rw[List.map_append];exact List.mem_append_left _ h1)
 ·
  have:=(I.row8 e.symm).1
  omega
theorem AdV.keep {w2:World} {v9:Value} (I:AdV b0 hl B n code t p Q w0 v0 S0 first wx v8 T sv k v W Wn S nB) (h:(code[k]'I.hk).op=1∨(code[k]'I.hk).op=7) (he:succE code t k p=[])
  (own2:w2.ownsRow b0 128 2 v9 (W.length+1) (pwc W++[sv, .int .i64 (k:Int)])) (hb0:b0≤w0.heap.size)
  (hg:wx.grownBy w2 v.ownBlock) (hat:v9.ownBlock=v.ownBlock∨v9.ownBlock=some wx.heap.size):AdR b0 hl B n code t p Q w0 v0 S0 first (w2.setCell ⟨hl,0,none⟩ v9) v8 T v9 (W++[⟨sv,(k:Int)⟩]) (Wn++[k]) S nB:=by
 have f2:FrX (fun x=>some x=v.ownBlock) wx w2:=FrX.grown hg (fun x e=>e.symm)
 have f3:FrX (fun x=>x=hl) w2 (w2.setCell ⟨hl,0,none⟩ v9):=FrX.set (ex:=fun x=>x=hl) w2 (a:=⟨hl,0,none⟩) rfl v9
 have f4:FrX (fun x=>x=hl∨some x=v.ownBlock) wx (w2.setCell ⟨hl,0,none⟩ v9):=(f2.mono (fun _ e=> .inr e)).trans (f3.mono (fun _ e=> .inl e))
 have hlaw:=I.law
 rw[if_pos h,he,List.append_nil] at hlaw
 have hx9:∀x,x<wx.heap.size→some x=v9.ownBlock→some x=v.ownBlock:=fun x hx e=>by
  rcases hat with e2|e2
  ·
   rw[←e2];exact e
  ·
   rw[e2] at e;injection e with e;omega
 have hlz:=I.ls.hz
 have hBz:=I.ls.mp.lt
 have nhl:¬(some hl=v.ownBlock):=fun e=>I.ls.nv.1 e.symm
 have nB':¬(some B=v.ownBlock):=fun e=>I.ls.nv.2 e.symm
 have n9:v9.ownBlock≠some hl∧v9.ownBlock≠some B:=by
  rcases hat with e|e
  ·
   rw[e];exact I.ls.nv
  ·
   rw[e];exact ⟨fun e=>by injection e with e;omega,fun e=>by injection e with e;omega⟩
 have c02:w2.cell? ⟨hl,0,none⟩=some v:=(f2.cell (p:=⟨hl,0,none⟩) hlz nhl).trans I.ls.c0
 have nv8:∀x,v8.ownBlock=some x→¬(x=hl∨some x=v.ownBlock):=fun x hx e=>by
  obtain ⟨-, -,h3, -,h5⟩:=I.row8 hx
  rcases e with e|e
  ·
   exact h3 e
  ·
   exact h5 e.symm
 refine ⟨⟨?_,?_,?_,?_,I.ls.ne,I.ls.mp.fr f4 (fun e=>?_),?_,n9,fun x hx=>?_,by rw[List.length_append];exact I.wl1⟩,own_fr I.own f4 nv8,?_,fun x hx=>?_,fun x hx=>?_,?_,hlaw,I.ini,I.mono,f4.since I.fr (fun x hx e=>?_),?_⟩
 ·
  exact World.cell?_setCell_same' _ _ _ (by rw[c02];rfl)
 ·
  rw[World.frozen?_setCell]
  exact (f2.frozen (p:=⟨hl,0,none⟩) hlz nhl).trans I.ls.f0
 ·
  rw[World.cell?_setCell_other w2 ⟨hl,0,none⟩ ⟨hl,1,none⟩ _ (by first|(simp;done)|(simp;omega))]
  exact (f2.cell (p:=⟨hl,1,none⟩) hlz nhl).trans I.ls.c1
 ·
  exact Nat.lt_of_lt_of_le hlz f4.size
 ·
  rcases e with e|e
  ·
   exact I.ls.ne e.symm
  ·
   exact nB' e
 ·
  rw[pwc_append,List.length_append]
  exact own_fr own2 f3 (fun x hx e=>n9.1 (by rw[hx,e]))
 ·
  rcases List.mem_append.1 hx with h1|h1
  ·
   exact (I.ls.pl x h1).go f4 (fun y e=>by
    rcases e with e|e
    ·
     exact .inl e
    ·
     exact .inr (.inr e)) (fun y hy e=>by
    rcases e with e|e|e
    ·
     exact .inl e
    ·
     exact .inr (.inl e)
    ·
     exact .inr (.inr (hx9 y hy e)))
  ·
   rw[List.mem_singleton] at h1
   subst h1
   exact I.px.go f4 (fun y e=>by
    rcases e with e|e
    ·
     exact .inl e
    ·
     exact .inr (.inr (.inl e))) (fun y hy e=>by
    rcases e with e|e|e
    ·
     exact .inl e
    ·
     exact .inr (.inl e)
    ·
     exact .inr (.inr (.inl (hx9 y hy e))))
 ·
  rcases hat with e|e
  ·
   rw[e];exact I.nv
  ·
   refine .inl (fun e2=>?_)
   rw[e] at e2
   have:=(I.row8 e2).2.1
   omega
 ·
  exact (I.pT x hx).go f4 (fun y e=>by
   rcases e with e|e
   ·
    exact .inl e
   ·
    exact .inr (.inr (.inl e))) (fun y hy e=>by
   rcases e with e|e|e|e
   ·
    exact .inl e
   ·
    exact .inr (.inl e)
   ·
    exact .inr (.inr (.inl (hx9 y hy e)))
   ·
    exact .inr (.inr (.inr e)))
 ·
  rcases List.mem_append.1 hx with h1|h1
  ·
   obtain ⟨a,m,hp,hn⟩:=I.ls.pl x h1
   obtain ⟨a',m',hp',hn'⟩:=I.pW x h1
   obtain ⟨c,e,h0,hm,ha,hc⟩:=hp
   obtain ⟨c',e',_⟩:=hp'
   rw[e] at e'
   injection e' with e' _ _
   injection e' with e'
   injection e' with e' _ _
   subst e'
   exact ⟨a,m,⟨c,e,h0,hm,Nat.lt_of_lt_of_le ha f4.size,fun j hj=>by
    obtain ⟨z,hz⟩:=hc j hj
    exact ⟨z,(f4.cell (p:=⟨a,j,none⟩) ha (fun e2=>hn (by
     rcases e2 with e2|e2
     ·
      exact .inl e2
     ·
      exact .inr (.inr e2)))).trans hz⟩⟩,hn'⟩
  ·
   rw[List.mem_singleton] at h1
   subst h1
   exact I.px.go f4 (fun y e=>by
    rcases e with e|e
    ·
     exact .inl e
    ·
     exact .inr (.inr (.inl e))) (fun y hy e=> .inr (.inr (.inr e)))
 ·
  rw[List.map_append,List.map_append,I.wn]
  rfl
 ·
  rcases e with e|e
  ·
   exact .inl e
  ·
   rcases I.vn with e2|⟨y,e2,hy⟩
   ·
    exact .inr (.inr (by rw[←e2];exact e))
   ·
    rw[e2] at e;injection e with e;omega
 ·
  rcases hat with e|e
  ·
   rw[e];exact I.vn
  ·
   exact .inr ⟨_,e,Nat.le_trans I.fr.size (Nat.le_refl _)⟩
end
theorem AdV.withs {b0 hl B n:Nat} {code:List In} {t:List UInt8} {p:Nat} {Q:Int→Prop} {w0:World} {v0:Value} {S0:Int→Bool} {first:Int} {wx:World} {v8:Value} {T:List Pw} {sv:Value} {k:Nat} {v:Value} {W:List Pw} {Wn:List Nat} {S:Int→Bool} {nB:Nat}
  (I:AdV b0 hl B n code t p Q w0 v0 S0 first wx v8 T sv k v W Wn S nB) {wy:World} {s':Value} {a a' m:Nat} (hP:Plc wy s' a' m) (hn:¬(a=hl∨a=B∨some a=v.ownBlock∨some a=v8.ownBlock)) (ha:a'=a∨wx.heap.size≤a'):PlX (fun k=>k=hl∨k=B∨some k=v.ownBlock∨some k=v8.ownBlock) wy s':=by
 refine ⟨a',m,hP,fun e=>?_⟩
 rcases ha with h|h
 ·
  subst h;exact hn e
 ·
  have h1:=I.ls.hz
  have h2:=I.ls.mp.lt
  rcases e with e|e|e|e
  ·
   omega
  ·
   omega
  ·
   have:=(I.ls.own.lt _ e.symm).2;omega
  ·
   have:=(I.own.lt _ e.symm).2;omega
def RelAd (b0 hl B n:Nat) (code:List In) (t:List UInt8) (p:Nat) (Q:Int→Prop) (w0:World) (v0:Value) (S0:Int→Bool) (nB0:Nat) (first:Int) (v8:Value) (wr:World):Prop:=
 ∃(T:List Pw) (v':Value) (W':List Pw) (Wn':List Nat) (S':Int→Bool) (nB':Nat),AdR b0 hl B n code t p Q w0 v0 S0 first wr v8 T v' W' Wn' S' nB'∧T.length+2*unseenP S' n≤2*n+1∧nB'+unseenP S' n=nB0+unseenP S0 n
theorem unseenP_visit {S:Int→Bool} {n k:Nat} (hk:k<n) (h:S (k:Int)=false):unseenP (fun a=>a==(k:Int)||S a) n+1=unseenP S n:=by
 have h1:=unseen_visit (σ:=fun j:Nat=>S (j:Int)) hk h
 have e:(fun j:Nat=>(j==k||S (j:Int)))=fun j:Nat=>((j:Int)==(k:Int)||S (j:Int)):=by
  funext j
  congr 1
  rw[Bool.eq_iff_iff]
  simp
  omega
 rw[e] at h1
 exact h1
theorem AdR.own_len {b0 hl B n:Nat} {code:List In} {t:List UInt8} {p:Nat} {Q:Int→Prop} {w0:World} {v0:Value} {S0:Int→Bool} {first:Int} {wr:World} {v8:Value} {T:List Pw} {v:Value} {W:List Pw} {Wn:List Nat} {S:Int→Bool} {nB:Nat} (I:AdR b0 hl B n code t p Q w0 v0 S0 first wr v8 T v W Wn S nB):lenP v8=T.length:=by
 obtain ⟨h1,⟨hv,h0⟩|⟨g',cap,cur,hv,_⟩⟩:=I.own
 ·
  rw[hv,h0];rfl
 ·
  rw[hv];rfl
theorem AdR.fin {b0 hl B n:Nat} {code:List In} {t:List UInt8} {p:Nat} {Q:Int→Prop} {w0:World} {v0:Value} {S0:Int→Bool} {nB0:Nat} {first:Int} {wr w2:World} {v9:Value} {T':List Pw} {T m k:Nat} {v:Value} {W:List Pw} {Wn:List Nat} {S:Int→Bool} {nB:Nat}
  (I:AdR b0 hl B n code t p Q w0 v0 S0 first w2 v9 T' v W Wn (fun a=>a==(k:Int)||S a) (nB+1)) (hk:k<n) (hn:n≤2000) (hs:S (k:Int)=false) (hm:MpB wr B nB S) (hlen:T+1+2*unseenP S n≤2*n+1) (hnB:nB+unseenP S n=nB0+unseenP S0 n) (hT:T'.length=T+m) (hm2:m≤2) :
  RelAd b0 hl B n code t p Q w0 v0 S0 nB0 first v9 w2∧3*unseenPW B n w2+lenP v9<3*unseenPW B n wr+(T+1):=by
 have h1:=unseenP_visit hk hs
 refine ⟨⟨T',v,W,Wn,_,nB+1,I,by omega,by omega⟩,?_⟩
 rw[I.ls.mp.unseen hn,hm.unseen hn,I.own_len]
 omega
end
open Go
structure WQ (P:Program) (ops:Array Oper) (C:World→Prop) (Q:Act→Prop) (l:List Oper) (a:Act):Prop where
 out:wpQuiet P ops C Q l a
section
variable {P:Program} {ops:Array Oper} {C:World→Prop} {Q:Act→Prop} {o:Oper} {rest:List Oper} {a:Act}
theorem r_val {v:Value} (hw:Region.wanted o (yielded ops a.tmps)=true) (h:∀W,C W→(execOp a.eval o).run P W= .ok (.value v) W) (hr:WQ P ops C Q rest (a.put o.dst v)) :
  WQ P ops C Q (o::rest) a:=⟨q_val hw h hr.out⟩
theorem r_call {v:Value} {f:FuncId} {args:Array Value} (hw:Region.wanted o (yielded ops a.tmps)=true) (h:∀W,C W→(execOp a.eval o).run P W= .ok (.enter f args) W)
  (hc:∀W,C W→Calls P f args W fun e w'=>e= .returned v∧C w') (hr:WQ P ops C Q rest (a.put o.dst v)):WQ P ops C Q (o::rest) a:=⟨q_call hw h hc hr.out⟩
theorem r_skip (hw:Region.wanted o (yielded ops a.tmps)=false) (hr:WQ P ops C Q rest (a.put o.dst undef)):WQ P ops C Q (o::rest) a:=⟨q_skip hw hr.out⟩
theorem rv {v:Value} (hr:WQ P ops C Q rest (a.put o.dst v)) (hw:Region.wanted o (yielded ops a.tmps)=true:=by kernel_rfl) (h:∀W,C W→(execOp a.eval o).run P W= .ok (.value v) W:=by intro W hW;go_light;go_simp;rfl):WQ P ops C Q (o::rest) a:=r_val hw h hr
theorem rs (hr:WQ P ops C Q rest (a.put o.dst undef)) (hw:Region.wanted o (yielded ops a.tmps)=false:=by kernel_rfl):WQ P ops C Q (o::rest) a:=r_skip hw hr
theorem r_nil (h:Q a):WQ P ops C Q [] a:=⟨wpQuiet_nil h⟩
theorem region_R {id:Nat} {R:Exit→Act→World→Prop} {w:World} {l:List Oper} (hm:P.follows .mixedOrders=true) (hB:Region.lexB .any l.toArray=true)
  (h:WQ P l.toArray (fun W=>Gr w W) (fun a'=>∀w',Gr w w'→R .normal a' w') l a):(Code.region id l.toArray true).wp P R a w:=region_Q hm hB h.out
end
section
variable {P:Program} {ops:Array Oper} {md:Region.Mode} {C:World→Prop}
def headQ (P:Program) (md:Region.Mode) (ops:Array Oper) (C:World→Prop) (n:Nat) (L:Array Bool→Act→Prop):Nat→Array Bool→Act→Prop
 | 0,listed,a=>L listed a
 | f+1,listed,a=>
  Region.ready md ops listed≠[]∧∀i∈Region.ready md ops listed,i<n∧qOp P ops C i (headQ P md ops C n L f (listed.setIfInBounds i true)) a
theorem any_of_headQ {n g:Nat} {L:Array Bool→Act→Prop} {Q':Exit→Act→World→Prop} (hL:∀listed a w,C w→L listed a→wpAny P md ops Q' g listed a w) :
  ∀(f:Nat) (listed:Array Bool) (a:Act) (w:World),C w→headQ P md ops C n L f listed a→wpAny P md ops Q' (f+g) listed a w
 | 0,listed,a,w,hw,h=>by rw[Nat.zero_add];exact hL _ _ _ hw h
 | f+1,listed,a,w,hw,h=>by
  rw[show f+1+g=(f+g)+1 by omega]
  exact ⟨fun h0=>absurd h0 h.1,fun i hi=>wpOp_of_qOp hw (fun a' w' hw' h'=>any_of_headQ hL f _ a' w' hw' h') (h.2 i hi).2⟩
theorem headQ_first {n i:Nat} {oi:Oper} {v:Value} {L:Array Bool→Act→Prop} (hi:ops[i]?=some oi) (hsel:∀(j:Nat) (o:Oper) cs b,ops[j]?=some o→o.op ≠ .select cs b)
  (hs:Region.sinkB md ops n=true) (hc:Region.chainB md ops n=true) (hn:n<ops.size) (hin:i<n)
  (hdone:∀listed a,L listed a→∀j∈Region.ready md ops listed,n≤j) :
  ∀(f:Nat) (listed:Array Bool) (a:Act),HeadInv md ops n listed→
   (∀j oj,ops[j]?=some oj→j≠i→listed.getD j true=false→(∀e∈oj.after,Region.binds md e=true→e.on≠i)→oi.apart ops oj=true)→
   i∈Region.ready md ops listed→YieldsIn P ops C oi v a→
   headQ P md ops C n L f (listed.setIfInBounds i true) (a.put oi.dst v)→headQ P md ops C n L (f+1) listed a:=by
 intro f
 induction f with
 | zero=>
  intro listed a inv _ hr hy H
  have hun:=(mem_ready.1 hr).1
  refine ⟨fun h=>(by rw[h] at hr;cases hr),fun j hj=>?_⟩
  have hjn:j<n:=Nat.lt_of_not_ge fun h=>absurd hj (tail_waits hs hc hn inv _ i rfl hin hun j h)
  refine ⟨hjn,?_⟩
  by_cases hji:j=i
  ·
   subst hji;exact hy.qOp hi H
  ·
   exact absurd (hdone _ _ H j (ready_mono hj hji)) (by omega)
 | succ f ih=>
  intro listed a inv hfree hr hy H
  have hun:=(mem_ready.1 hr).1
  refine ⟨fun h=>(by rw[h] at hr;cases hr),fun j hj=>?_⟩
  have hjn:j<n:=Nat.lt_of_not_ge fun h=>absurd hj (tail_waits hs hc hn inv _ i rfl hin hun j h)
  refine ⟨hjn,?_⟩
  by_cases hji:j=i
  ·
   subst hji;exact hy.qOp hi H
  ·
   have h1:=(H.2 j (ready_mono hj hji)).2
   obtain ⟨hjun,oj,hoj,hall⟩:=mem_ready.1 hj
   have hnot:∀e∈oj.after,Region.binds md e=true→e.on≠i:=fun e he hb heq=>by
    have h2:=hall e he hb
    rw[heq,getD_both hun] at h2
    cases h2
   have h2:=qOp_put hoj (hfree j oj hoj hji hjun hnot) (fun cs b=>hsel i oi cs b hi) (fun cs b=>hsel j oj cs b hoj) hy h1
   refine qOp_mono (fun a' h3=>ih (listed.setIfInBounds j true) a' (inv.set hj hjn) (fun k ok hk hki hk0 hno=>hfree k ok hk hki ?_ hno) (ready_mono hr (Ne.symm hji)) h3.1 ?_) h2
   ·
    by_cases hjk:j=k
    ·
     subst hjk;exact hjun
    ·
     rwa [getD_set_ne true hjk] at hk0
   ·
    rw[Array.setIfInBounds_comm _ _ hji];exact h3.2
theorem headQ_lex {n g:Nat} {Lq:Act→Prop} (hsel:Region.noSelect ops=true) (hs:Region.sinkB md ops n=true) (hc:Region.chainB md ops n=true) (hn:n<ops.size) :
  ∀(l:List Oper) (k:Nat) (listed:Array Bool) (a:Act),(∀j,j<l.length→l[j]?=ops[k+j]?)→k+l.length=n→HeadInv md ops n listed→
  Region.lexHead md ops g l.length k listed=true→wpQuiet P ops C Lq l a→
  headQ P md ops C n (fun listed' a'=>Region.seqB md ops g n listed'=true∧Lq a') l.length listed a
 | [],k,listed,a,_,hk,_,hB,h=>by
  have:k=n:=by simpa using hk
  subst this
  exact ⟨by simpa [Region.lexHead] using hB,h⟩
 | o::l,k,listed,a,hl,hk,inv,hB,h=>by
  have h0:ops[k]?=some o:=by simpa using (hl 0 (by simp)).symm
  simp only[List.length_cons,Region.lexHead,Bool.and_eq_true] at hB
  obtain ⟨⟨hr,hf⟩,hB'⟩:=hB
  have hkn:k<n:=by simp only[List.length_cons] at hk;omega
  have hr':k∈Region.ready md ops listed:=by simpa using hr
  have hst:qOp P ops C k (wpQuiet P ops C Lq l) a:=by unfold qOp;simp only[h0];exact h
  obtain ⟨v,hy,hK⟩:=yieldsIn_of_qOp h0 hst
  refine headQ_first h0 (Region.noSelect_spec hsel) hs hc hn hkn (fun listed' a' hL=>seqB_ready hL.1) l.length listed a inv (Region.free_spec h0 hf) hr' hy
   (headQ_lex hsel hs hc hn l (k+1) _ _ (fun j hj=>?_) (by simp only[List.length_cons] at hk;omega) (inv.set hr' hkn) hB' hK)
  have:=hl (j+1) (by simp;omega)
  simpa [Nat.add_assoc,Nat.add_comm 1 j] using this
theorem region_T {id:Nat} {Q:Exit→Act→World→Prop} {a:Act} {w:World} {l:List Oper} (n:Nat) (hm:P.follows .mixedOrders=true) (hB:Region.lexTailB .any l.toArray n=true)
  (h:wpQuiet P l.toArray (fun W=>Gr w W) (fun a'=>∀w',Gr w w'→wpList P l.toArray Q (l.drop n) a' w') (l.take n) a):(Code.region id l.toArray true).wp P Q a w:=by
 simp only[Region.lexTailB,Bool.and_eq_true,decide_eq_true_eq] at hB
 obtain ⟨⟨⟨⟨hsel,hn⟩,hs⟩,hc⟩,hlex⟩:=hB
 have hn':n<l.length:=by simpa using hn
 have htl:(l.take n).length=n:=by simp;omega
 have hdl:(l.drop n).length=l.toArray.size-n:=by simp
 have inv0:HeadInv .any l.toArray n (Array.replicate l.toArray.size false):=
  ⟨by simp,fun j oj _ hl=>(by rw[getD_replicate_false] at hl;cases hl),fun t _ ht=>getD_in (by simpa using ht) (getD_replicate_false _ _)⟩
 have H:=headQ_lex (md:= .any) (g:=l.toArray.size-n) hsel hs hc hn (l.take n) 0 _ a (fun j hj=>by
  have hj':j<n:=by rw[htl] at hj;exact hj
  simp[hj']) (by simpa using htl) inv0 (by rw[htl];exact hlex) h
 refine wp_region_any hm ?_
 have:=any_of_headQ (Q':=Q) (g:=l.toArray.size-n) (fun listed a' w' hw' hL=>by
  have:=wpAny_of_seq (md:= .any) (Q':=Q) (l.drop n) n listed a' w' (fun j=>by simp[List.getElem?_drop]) (by rw[hdl];exact hL.1) (hL.2 w' hw')
  rwa [hdl] at this) _ _ _ _ (Gr.drew (Gr.refl w)) H
 rw[htl,show n+(l.toArray.size-n)=l.toArray.size by omega] at this
 exact this
end
open Go.RowKit
def Svo (wr:World) (B1:Nat) (v s:Value):Prop:=
 ∃a m c,s= .slice (some ⟨a,0,none⟩) m c∧0<m∧m≤3000∧a<wr.heap.size∧a≠B1∧some a≠v.ownBlock∧∀j,j<m→∃z:Int,wr.cell? ⟨a,j,none⟩=some (.int .i64 z)
structure PrM (w:World) (h G n cA B1 N:Nat) (A:Option Addr) (wr:World) (v:Value) (T:List Wy) (σ:Nat→Bool):Prop where
 gr:Gr w wr
 b0:wr.cell? ⟨h,0,none⟩=some (.int .i64 G)
 b1:wr.cell? ⟨h,1,none⟩=some (.slice A n cA)
 seen:∀j,j<N→wr.cell? ⟨B1,j,none⟩=some (.bool (σ j))∧wr.frozen? ⟨B1,j,none⟩=false
 hB:h<B1∧B1<wr.heap.size
 own:wr.ownsRow (B1+1) 175 3 v T.length (wyc T)
 sv:∀x∈T,Svo wr B1 v x.sv
theorem Svo.gr {wr wr':World} {B1:Nat} {v s:Value} (h:Svo wr B1 v s) (g:Gr wr wr'):Svo wr' B1 v s:=by
 obtain ⟨a,m,c,e,h0,hm,ha,h1,h2,hc⟩:=h
 exact ⟨a,m,c,e,h0,hm,Nat.lt_of_lt_of_le ha g.size,h1,h2,fun j hj=>by
  obtain ⟨z,hz⟩:=hc j hj
  exact ⟨z,(Below.cell g (p:=⟨a,j,none⟩) ha).trans hz⟩⟩
theorem PrM.gr' {w:World} {h G n cA B1 N:Nat} {A:Option Addr} {wr wr':World} {v:Value} {T:List Wy} {σ:Nat→Bool} (I:PrM w h G n cA B1 N A wr v T σ) (g:Gr wr wr'):PrM w h G n cA B1 N A wr' v T σ:=
 ⟨I.gr.trans g,(Below.cell g (p:=⟨h,0,none⟩) (Nat.lt_trans I.hB.1 I.hB.2)).trans I.b0,(Below.cell g (p:=⟨h,1,none⟩) (Nat.lt_trans I.hB.1 I.hB.2)).trans I.b1,
  fun j hj=>⟨(Below.cell g (p:=⟨B1,j,none⟩) I.hB.2).trans (I.seen j hj).1,(Below.frozen g (p:=⟨B1,j,none⟩) I.hB.2).trans (I.seen j hj).2⟩,
  ⟨I.hB.1,Nat.lt_of_lt_of_le I.hB.2 g.size⟩,own_grU I.own g,fun x hx=>(I.sv x hx).gr g⟩
theorem PrM.see {w:World} {h G n cA B1 N:Nat} {A:Option Addr} {wr:World} {v:Value} {T:List Wy} {σ:Nat→Bool} (I:PrM w h G n cA B1 N A wr v T σ) (hw:w.heap.size≤h) (m:Nat) (hm:m<N) :
  PrM w h G n cA B1 N A (wr.setCell ⟨B1,m,none⟩ (.bool true)) v T (fun j=>j==m||σ j):=by
 have hB:=I.hB
 refine ⟨I.gr.setCell (by show w.heap.size≤B1;omega) _,?_,?_,fun j hj=>⟨?_,by rw[World.frozen?_setCell];exact (I.seen j hj).2⟩,⟨hB.1,by simpa using hB.2⟩,own_setU I.own (Nat.lt_succ_self _) _,fun x hx=>?_⟩
 ·
  rw[World.cell?_setCell_other wr ⟨B1,m,none⟩ ⟨h,0,none⟩ _ (by first|(simp;done)|(simp;omega))];exact I.b0
 ·
  rw[World.cell?_setCell_other wr ⟨B1,m,none⟩ ⟨h,1,none⟩ _ (by first|(simp;done)|(simp;omega))];exact I.b1
 ·
  by_cases e:j=m
  ·
   subst e
   rw[World.cell?_setCell_same' _ _ _ (by rw[(I.seen j hj).1];rfl)]
   simp
  ·
   rw[World.cell?_setCell_other wr ⟨B1,m,none⟩ ⟨B1,j,none⟩ _ (by first|(simp;done)|(simp;omega)),(I.seen j hj).1]
   have:(j==m)=false:=beq_eq_false_iff_ne.2 e
   simp only[this,Bool.false_or]
 ·
  obtain ⟨a,k,c,e,h0,hk,ha,h1,h2,hc⟩:=I.sv x hx
  refine ⟨a,k,c,e,h0,hk,by simpa using ha,h1,h2,fun j hj=>?_⟩
  obtain ⟨z,hz⟩:=hc j hj
  exact ⟨z,by rw[World.cell?_setCell_other wr ⟨B1,m,none⟩ ⟨a,j,none⟩ _ (by first|(simp;done)|(simp;omega))];exact hz⟩
theorem own_pop {w:World} {base:Nat} {e:TypeId} {size n c g:Nat} {xs ys:List Value} (h:w.ownsRow base e size (.slice (some ⟨g,0,none⟩) (n+1) c) (n+1) (xs++ys)) (hx:xs.length=n*size):w.ownsRow base e size (.slice (some ⟨g,0,none⟩) n c) n xs:=by
 obtain ⟨h1,⟨hv,h0⟩|⟨g',cap,cur,hv,hb,hh,h2,h3,h4,h5⟩⟩:=h
 ·
  cases h0
 ·
  injection hv with hv1 hv2 hv3
  subst hv3
  refine ⟨hx, .inr ⟨g',c,cur,by rw[hv1],hb,hh,by omega,h3,h4,?_⟩⟩
  have:cur.toList.take (n*size)=(cur.toList.take ((n+1)*size)).take (n*size):=by rw[List.take_take,Nat.min_eq_left (Nat.mul_le_mul_right _ (Nat.le_succ n))]
  rw[this,h5,List.take_left' hx]
theorem PrM.pop {w:World} {h G n cA B1 N:Nat} {A:Option Addr} {wr:World} {g c:Nat} {T:List Wy} {x:Wy} {σ:Nat→Bool} (I:PrM w h G n cA B1 N A wr (.slice (some ⟨g,0,none⟩) (T.length+1) c) (T++[x]) σ):PrM w h G n cA B1 N A wr (.slice (some ⟨g,0,none⟩) T.length c) T σ:=by
 refine ⟨I.gr,I.b0,I.b1,I.seen,I.hB,?_,fun y hy=>I.sv y (List.mem_append_left _ hy)⟩
 have:=I.own
 rw[wyc_append,List.length_append] at this
 exact own_pop this (wyc_length T)
theorem PrM.push {w:World} {h G n cA B1 N:Nat} {A:Option Addr} {wr w2:World} {v v':Value} {T news:List Wy} {σ:Nat→Bool} {o:Obj} (I:PrM w h G n cA B1 N A wr v T σ) (hw:w.heap.size≤h) (hs:∀x∈news,Svo wr B1 v x.sv)
  (own2:w2.ownsRow (B1+1) 175 3 v' (T.length+news.length) (wyc T++wyc news)) (hg:(wr.alloc o).grownBy w2 v.ownBlock) (hat:v'.ownBlock=v.ownBlock∨v'.ownBlock=some (wr.alloc o).heap.size) :
  PrM w h G n cA B1 N A w2 v' (T++news) σ:=by
 have hB:=I.hB
 have keep:∀x,x<wr.heap.size→some x≠v.ownBlock→w2.heap[x]?=wr.heap[x]?:=fun x hx hne=>(hg.block x (by simp;omega) hne).trans (heap_alloc_old _ _ hx)
 have low:∀x,x<B1+1→some x≠v.ownBlock:=fun x hx e=>by have:=(I.own.lt x e.symm).1;omega
 have sz:wr.heap.size<w2.heap.size:=by have:=hg.size;simp at this;omega
 have svk:∀s,Svo wr B1 v s→Svo w2 B1 v' s:=by
  rintro s ⟨a,m,c,e,h0,hm,ha,h1,h2,hc⟩
  refine ⟨a,m,c,e,h0,hm,by omega,h1,?_,fun j hj=>?_⟩
  ·
   rcases hat with e2|e2
   ·
    rw[e2];exact h2
   ·
    rw[e2];simp;omega
  ·
   obtain ⟨z,hz⟩:=hc j hj
   exact ⟨z,(World.cell?_of_block (keep a ha h2)).trans hz⟩
 refine ⟨Gr.grown (Gr.alloc I.gr _) hg (fun k hk=>by have:=(I.own.lt k hk).1;omega),(World.cell?_of_block (keep h (by omega) (low h (by omega)))).trans I.b0,(World.cell?_of_block (keep h (by omega) (low h (by omega)))).trans I.b1,
  fun j hj=>⟨(World.cell?_of_block (keep B1 (by omega) (low B1 (by omega)))).trans (I.seen j hj).1,(World.frozen?_of_block (keep B1 (by omega) (low B1 (by omega)))).trans (I.seen j hj).2⟩,⟨hB.1,by omega⟩,?_,fun x hx=>?_⟩
 ·
  rw[wyc_append,List.length_append];exact own2
 ·
  rcases List.mem_append.1 hx with h1|h1
  ·
   exact svk _ (I.sv x h1)
  ·
   exact svk _ (hs x h1)
section
variable {P:Program} {w:World}
theorem Rd.grown {w w':World} {size n:Nat} {A:Option Addr} {xs:List Value} {row:Option Nat} (h:Rd w size A n xs) (hg:w.grownBy w' row) (hne:∀ad,A=some ad→some ad.block≠row):Rd w' size A n xs:=
 ⟨h.1,fun hn=>by
  obtain ⟨ad,e,hb,hc⟩:=h.2 hn
  exact ⟨ad,e,Nat.lt_of_lt_of_le hb hg.size,fun j u hu=>hg.cell (hc j u hu) (by rw[add_blk];exact hne ad e)⟩⟩
theorem wp_append_rd0 {o:Oper} {a:Act} {Q:Exit→Act→World→Prop} {K:Act→World→Prop} (s x:Operand) (t:TypeId)
  (ho:o.op= .call {callee:= .builtin .append,args:= #[s,x],argTypes:= #[t,t]})
  (base:Nat) (e:TypeId) (i:TypeInfo) (z:Value) (size bytes:Nat) (ht:P.underlying t=some (.slice e)) (hi:P.info? e=some i) (hz:i.zero=some z)
  (hsize:i.size=size) (hby:i.bytes=bytes) (hzs:z.cells.size=size) (hsz:0<size)
  (v:Value) (n:Nat) (xs:List Value) (hs:a.eval s=v) (hown:w.ownsRow base e size v n xs)
  (A:Option Addr) (m c:Nat) (news:List Value) (hx:a.eval x= .slice A m c) (hr:Rd w size A m news) (h1:∀u∈news,u.oneCell'=true)
  (h63:n+m≤maxLen) (hbytes:(n+m)*bytes≤140737488355328) (hbase:base≤w.heap.size)
  (h:∀v' w',w'.ownsRow base e size v' (n+m) (xs++news)→w.grownBy w' v.ownBlock→(v'.ownBlock=v.ownBlock∨v'.ownBlock=some w.heap.size)→K (a.put o.dst v') w'):Oper.wp P o a w K Q:=by
 have hrun:∃v' w',(Builtin.append_ #[t,t] o.type #[v, .slice A m c]).run P w= .ok v' w'∧w'.ownsRow base e size v' (n+m) (xs++news)∧w.grownBy w' v.ownBlock∧(v'.ownBlock=v.ownBlock∨v'.ownBlock=some w.heap.size):=by
  rcases Nat.eq_zero_or_pos m with hm|hm
  ·
   subst hm
   have hn:news=[]:=List.eq_nil_of_length_eq_zero (by simpa using hr.1)
   subst hn
   cases A with
   | none=>exact ⟨v,w,append_nil_run base t o.type e i size ht hi hown c,by simpa using hown,World.grownBy.refl w _, .inl rfl⟩
   | some ad=>
    obtain ⟨v',w',k1,k2,k3,_,k5⟩:=run_append_own_at (P:=P) w base t o.type e i z size bytes ht hi hz hsize hby hzs hsz v n xs hown ad 0 c [] (by simp) (by intro j u hu;simp at hu) (by intro u hu;simp at hu) h63 hbytes hbase
    exact ⟨v',w',k1,k2,k3,k5⟩
  ·
   obtain ⟨ad,rfl,_,hc⟩:=hr.2 hm
   obtain ⟨v',w',k1,k2,k3,_,k5⟩:=run_append_own_at (P:=P) w base t o.type e i z size bytes ht hi hz hsize hby hzs hsz v n xs hown ad m c news hr.1 hc h1 h63 hbytes hbase
   exact ⟨v',w',k1,k2,k3,k5⟩
 obtain ⟨v',w',hr1,h2,h3,h4⟩:=hrun
 unfold Oper.wp execOp
 simp only[ho,resolve,invoke,builtin,Sem.run_bind,Sem.run_pure,Result.andThen_ok,List.map_toArray,List.map_cons,List.map_nil,hs,hx,hr1]
 exact h v' w' h2 h3 h4
end
end Go.Proofs.YtnphdacibageiaaGreat
