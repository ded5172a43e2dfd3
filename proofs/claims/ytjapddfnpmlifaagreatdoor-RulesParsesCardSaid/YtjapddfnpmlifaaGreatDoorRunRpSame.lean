import Derived.Test.YtjapddfnpmlifaaGreatDoorRunRuRetR
import Derived.Test.YtjapddfnpmlifaaGreatDoorRunRuChk
import Derived.Test.YtjapddfnpmlifaaGreatDoorRunRxComp
import Derived.Test.YtjapddfnpmlifaaGreatDoorRunFxBase
import Derived.Test.YtjapddfnpmlifaaGreatDoorRunRuSpec
import Derived.Test.YtjapddfnpmlifaaGreatDoorRuShelf
import Derived.Lib.Hide
import Derived.Lib.Strings
import Derived.Lib.Bytealg
import Derived.Test.YtjapddfnpmlifaaGreatDoorRunPkSpec
set_option linter.all false
set_option maxRecDepth 1000000
set_option maxHeartbeats 12800000
namespace Go.Proofs.YtjapddfnpmlifaaGreatDoor
open Go.RowKit
theorem headers_sameK (kd xf:Int) (A B:Option Addr) (c d:Nat) (l:List (Nat×Nat)) (hl:(l.length:Int)<=1000) (w:World) (ha:Ra w A l) (hb:Ra w B l):Calls Tryz.prog 8 #[.agg #[.int .i64 kd, .int .i64 xf, .slice A l.length c], .agg #[.int .i64 kd, .int .i64 xf, .slice B l.length d]] w λe w'=>e= .returned (.bool true)/\Gr w w':=by
 obtain ⟨V,hV⟩:∃V,V=(w.alloc (.cells #[.int .i64 kd, .int .i64 xf, .slice A l.length c] 29)).alloc (.cells #[.int .i64 kd, .int .i64 xf, .slice B l.length d] 29):=⟨_,rfl⟩
 have gV:Gr w V:=by rw[hV];exact Gr.alloc (Gr.alloc (Gr.refl w) _) _
 have hz:w.heap.size+2=V.heap.size:=by rw[hV];simp
 have v0:V.cell? ⟨w.heap.size,0,none⟩=some (.int .i64 kd):=by rw[hV];go_simp
 have v1:V.cell? ⟨w.heap.size,1,none⟩=some (.int .i64 xf):=by rw[hV];go_simp
 have v2:V.cell? ⟨w.heap.size,2,none⟩=some (.slice A l.length c):=by rw[hV];go_simp
 have u0:V.cell? ⟨w.heap.size+1,0,none⟩=some (.int .i64 kd):=by rw[hV];go_simp
 have u1:V.cell? ⟨w.heap.size+1,1,none⟩=some (.int .i64 xf):=by rw[hV];go_simp
 have u2:V.cell? ⟨w.heap.size+1,2,none⟩=some (.slice B l.length d):=by rw[hV];go_simp
 have HA:=Lib.hid (ha.gr gV);have HB:=Lib.hid (hb.gr gV);have HV:=Lib.hid hV;have GV:=Lib.hid gV;clear ha hb hV gV;go_enter Tryz.func8,Tryz.ntmps8;go_upto_region 1 with (fail)
 rw[<-HV.out];clear HV;go_wp2
 go_loopw [5] (λi wr=>∃k:Nat,k<=l.length/\i= .int .i64 k/\Gr V wr) (λi _=>l.length-(intOf i).toNat)
 case atStart=>exact ⟨0,Nat.zero_le _,rfl,Gr.refl _⟩
 case round=>
  obtain ⟨k,hk,rfl,hgr⟩:=hrel;have G:=Lib.hid hgr;have v2:=bc hgr (by show w.heap.size<_;omega) v2;have u2:=bc hgr (by show w.heap.size+1<_;omega) u2;have hzr:w.heap.size+2<=wr.heap.size:=by have:=hgr.size;omega
  by_cases hlt:k<l.length
  ·have hki:(k:Int)<(l.length:Int):=by omega
   obtain ⟨b,rfl,hb,hc⟩:=(HA.out.gr hgr) (by omega)
   obtain ⟨b',rfl,hb',hc'⟩:=(HB.out.gr hgr) (by omega)
   obtain ⟨d0,d1⟩:=hc k hlt;obtain ⟨e0,e1⟩:=hc' k hlt;generalize l[k].1=x1 at *;generalize l[k].2=x2 at *;clear hc hc' hgr v0 v1 u0 u1;go_upto_region 6 with (fail)
   refine region_Q (by kernel_rfl) (by kernel_rfl) ?_;refine qv ?_;refine qv ?_ (h:=λW hW=>by have g:=bc hW (by show w.heap.size<_;omega) v2;go_simp<;>rfl);(iterate 2 refine qv ?_);refine qv ?_ (h:=λW hW=>by have g:=bc hW hb d0;have g2:=bc hW hb d1;go_simp<;>rfl);refine qv ?_;refine qv ?_ (h:=λW hW=>by have g:=bc hW (by show w.heap.size+1<_;omega) u2;go_simp<;>rfl);(iterate 2 refine qv ?_);refine qv ?_ (h:=λW hW=>by have g:=bc hW hb' e0;have g2:=bc hW hb' e1;go_simp<;>rfl);refine qv ?_;refine wpQuiet_nil ?_;intro w8 hw8;have G8:=Lib.hid hw8;clear hw8 d0 d1 e0 e1;go_wp2;go_roundw;case rel=>exact ⟨k+1,by omega,by go_num,G.out.trans G8.out⟩
   case measure=>simp[intOf];omega
  ·have hkk:k=l.length:=by omega
   subst hkk;clear hgr v0 v1 u0 u1;go_wp2;go_ret;exact ⟨rfl,GV.out.trans G.out⟩
def blkL (n:Nat) (A:Option Addr):List Nat:=if n=0 then [] else match A with
 | some ad=>[ad.block]
 | none=>[]
theorem Ra.same {w w':World} {A:Option Addr} {l:List (Nat×Nat)} (h:Ra w A l) (hb:∀b∈blkL l.length A,w'.heap[b]?=w.heap[b]?):Ra w' A l:=λh0=>by
 obtain ⟨b,e,hl,hc⟩:=h h0;have hk:w'.heap[b]?=w.heap[b]?:=hb b (by rw[e];simp[blkL,Nat.pos_iff_ne_zero.1 h0]);refine ⟨b,e,?_,λk hk'=>⟨(World.cell?_of_block (a:=⟨b,k*2,none⟩) hk).trans (hc k hk').1,(World.cell?_of_block (a:=⟨b,k*2+1,none⟩) hk).trans (hc k hk').2⟩⟩;rw[Array.getElem?_eq_getElem hl] at hk;exact (Array.getElem?_eq_some_iff.1 hk).1
theorem Ra.lt {w:World} {A:Option Addr} {l:List (Nat×Nat)} (h:Ra w A l):∀b∈blkL l.length A,b<w.heap.size:=by
 intro b hb;unfold blkL at hb;split at hb
 ·cases hb
 ·rename_i h0;obtain ⟨b',e,hl, -⟩:=h (Nat.pos_of_ne_zero h0);rw[e] at hb;rw[List.mem_singleton.1 hb];exact hl
theorem Rd.same {w w':World} {size n:Nat} {A:Option Addr} {xs:List Value} (h:Rd w size A n xs) (hb:∀b∈blkL n A,w'.heap[b]?=w.heap[b]?):Rd w' size A n xs:=⟨h.1,λh0=>by
 obtain ⟨ad,e,hl,hc⟩:=h.2 h0;have hk:w'.heap[ad.block]?=w.heap[ad.block]?:=hb _ (by rw[e];simp[blkL,Nat.pos_iff_ne_zero.1 h0]);refine ⟨ad,e,?_,λj u hu=>(World.cell?_of_block (a:=ad.add j) (by rw[add_blk];exact hk)).trans (hc j u hu)⟩;rw[Array.getElem?_eq_getElem hl] at hk;exact (Array.getElem?_eq_some_iff.1 hk).1⟩
theorem Rd.lt {w:World} {size n:Nat} {A:Option Addr} {xs:List Value} (h:Rd w size A n xs):∀b∈blkL n A,b<w.heap.size:=by
 intro b hb;unfold blkL at hb;split at hb
 ·cases hb
 ·rename_i h0;obtain ⟨ad,e,hl, -⟩:=h.2 (Nat.pos_of_ne_zero h0);rw[e] at hb;rw[List.mem_singleton.1 hb];exact hl
theorem blk_ge {n m:Nat} {A:Option Addr} (h:∀ad,A=some ad->m<=ad.block):∀b∈blkL n A,m<=b:=by
 intro b hb;unfold blkL at hb;split at hb
 ·cases hb
 ·cases A with
  | none=>cases hb
  | some ad=>rw[List.mem_singleton.1 hb];exact h ad rfl
theorem own_kept {w V W9:World} {base:Nat} {e:TypeId} {size n:Nat} {v:Value} {xs:List Value} {row:Option Nat} (h:w.ownsRow base e size v n xs) (gV:Gr w V) (hg:V.grownBy W9 row) (hne:∀k,v.ownBlock=some k->row≠some k):W9.ownsRow base e size v n xs:=
 (own_grU h gV).kept hg (by
  cases hv:v.ownBlock with
  | none=>exact .inl rfl
  | some k=>exact .inr λe=>hne k hv e.symm)
theorem set_offR {w:World} (B:Nat) {m o:Nat} (h:¬o=m) (v:Value):(w.setCell ⟨B,m,none⟩ v).cell? ⟨B,o,none⟩=w.cell? ⟨B,o,none⟩:=
 World.cell?_setCell_other w ⟨B,m,none⟩ ⟨B,o,none⟩ v (by first|(simp;done)|(simp;omega))
structure Two (w:World) (R B0:Nat) (T1 T2:TypeId) (z1 z2:Nat) (W:World) (v1 v2:Value) (n1 n2:Nat) (c1 c2:List Value) (F:World->Prop):Prop where
 gr:Gr w W
 ge:w.heap.size<=R
 lt:R<B0
 sz:B0<=W.heap.size
 x1:W.cell? ⟨R,0,none⟩=some v1
 x2:W.cell? ⟨R,1,none⟩=some v2
 f1:W.frozen? ⟨R,0,none⟩=false
 f2:W.frozen? ⟨R,1,none⟩=false
 o1:W.ownsRow B0 T1 z1 v1 n1 c1
 o2:W.ownsRow B0 T2 z2 v2 n2 c2
 ne:∀k,v1.ownBlock=some k->v2.ownBlock≠some k
 kp:∃K:List Nat,(∀b∈K,B0<=b/\b<W.heap.size/\v1.ownBlock≠some b/\v2.ownBlock≠some b)/\∀W',(∀b∈K,W'.heap[b]?=W.heap[b]?)->F W'
theorem Two.at' {w:World} {R B0:Nat} {T1 T2:TypeId} {z1 z2:Nat} {W:World} {v1 v2:Value} {n1 n2:Nat} {c1 c2:List Value} {F:World->Prop} (h:Two w R B0 T1 T2 z1 z2 W v1 v2 n1 n2 c1 c2 F):F W:=by
 obtain ⟨K, -,hF⟩:=h.kp;exact hF W λ_ _=>rfl
theorem Two.gr' {w:World} {R B0:Nat} {T1 T2:TypeId} {z1 z2:Nat} {W W':World} {v1 v2:Value} {n1 n2:Nat} {c1 c2:List Value} {F:World->Prop} (h:Two w R B0 T1 T2 z1 z2 W v1 v2 n1 n2 c1 c2 F) (g:Gr W W'):Two w R B0 T1 T2 z1 z2 W' v1 v2 n1 n2 c1 c2 F:=by
 have hl:R<W.heap.size:=Nat.lt_of_lt_of_le h.lt h.sz;obtain ⟨K,hK,hF⟩:=h.kp;exact ⟨h.gr.trans g,h.ge,h.lt,Nat.le_trans h.sz g.size,(bc g hl h.x1),(bc g hl h.x2),(bf g hl h.f1),(bf g hl h.f2),own_grU h.o1 g,own_grU h.o2 g,h.ne,K,
  λb hb=>⟨(hK b hb).1,Nat.lt_of_lt_of_le (hK b hb).2.1 g.size,(hK b hb).2.2⟩,λW'' hW=>hF W'' λb hb=>(hW b hb).trans (Below.block g b (hK b hb).2.1)⟩
theorem Two.other {w:World} {R B0 k:Nat} {T1 T2:TypeId} {z1 z2:Nat} {W W':World} {v1 v2:Value} {n1 n2:Nat} {c1 c2:List Value} {F:World->Prop} (h:Two w R B0 T1 T2 z1 z2 W v1 v2 n1 n2 c1 c2 F) (g:W.grownBy W' (some k)) (hw:w.heap.size<=k) (hR:k≠R) (hk:k<B0):Two w R B0 T1 T2 z1 z2 W' v1 v2 n1 n2 c1 c2 F:=by
 have hl:R<W.heap.size:=Nat.lt_of_lt_of_le h.lt h.sz;have hRR:=g.block R hl (λe=>hR (by injection e with e;exact e.symm));obtain ⟨K,hK,hF⟩:=h.kp;exact ⟨Below.grown h.gr g h.gr.size (λj e=>by cases e;exact hw),h.ge,h.lt,Nat.le_trans h.sz g.size,(World.cell?_of_block (a:=⟨R,0,none⟩) hRR).trans h.x1,(World.cell?_of_block (a:=⟨R,1,none⟩) hRR).trans h.x2,(World.frozen?_of_block (a:=⟨R,0,none⟩) hRR).trans h.f1,(World.frozen?_of_block (a:=⟨R,1,none⟩) hRR).trans h.f2,
  h.o1.kept g (.inr λe=>by have:=(h.o1.lt k e).1;omega),h.o2.kept g (.inr λe=>by have:=(h.o2.lt k e).1;omega),h.ne,K,
  λb hb=>⟨(hK b hb).1,Nat.lt_of_lt_of_le (hK b hb).2.1 g.size,(hK b hb).2.2⟩,λW'' hW=>hF W'' λb hb=>(hW b hb).trans (g.block b (hK b hb).2.1 (λe=>by injection e with e;have:=(hK b hb).1;omega))⟩
theorem Two.push1 {w:World} {R B0:Nat} {T1 T2:TypeId} {z1 z2:Nat} {W:World} {v1 v2:Value} {n1 n2:Nat} {c1 c2:List Value} {F:World->Prop} (h:Two w R B0 T1 T2 z1 z2 W v1 v2 n1 n2 c1 c2 F) {V W9:World} (gV:Gr W V) {v9:Value} {d:List Value}
  (own9:W9.ownsRow B0 T1 z1 v9 (n1+1) (c1++d)) (hg:V.grownBy W9 v1.ownBlock) (hob:v9.ownBlock=v1.ownBlock\/v9.ownBlock=some V.heap.size) {G:World->Prop} (K:List Nat) (hK:∀b∈K,W.heap.size<=b/\b<V.heap.size) (hG:∀W',(∀b∈K,W'.heap[b]?=V.heap[b]?)->G W') :
  Two w R B0 T1 T2 z1 z2 (W9.setCell ⟨R,0,none⟩ v9) v9 v2 (n1+1) n2 (c1++d) c2 (λW=>F W/\G W)/\∀k,k<B0->k≠R->(W9.setCell ⟨R,0,none⟩ v9).heap[k]?=W.heap[k]?:=by
 have hgz:=gV.size;have hz:=h.sz;have hlt:=h.lt;have hge:=h.ge;have hol:∀k,v1.ownBlock=some k->B0<=k/\k<W.heap.size:=h.o1.lt;have old:∀k,k<W.heap.size->v1.ownBlock≠some k->W9.heap[k]?=W.heap[k]?:=λk hk hn=>(hg.block k (Nat.lt_of_lt_of_le hk hgz) (λe=>hn e.symm)).trans (Below.block gV k hk);have hR9:W9.heap[R]?=W.heap[R]?:=old R (by omega) (λe=>by have:=(hol R e).1;omega);have hsz9:V.heap.size<=W9.heap.size:=hg.size;have hgw:Gr w W9:=Gr.grown (h.gr.trans gV) hg (λk hk=>by have:=(hol k hk).1;omega);have st:∀k,k≠R->(W9.setCell ⟨R,0,none⟩ v9).heap[k]?=W9.heap[k]?:=λk hk=>Below.heap_setCell W9 _ v9 k hk;obtain ⟨K0,hK0,hF⟩:=h.kp;refine ⟨⟨hgw.setCell (by show w.heap.size<=R;exact hge) _,hge,hlt,by simp;omega,World.cell?_setCell_same' _ _ _ (by rw[(World.cell?_of_block (a:=⟨R,0,none⟩) hR9).trans h.x1];rfl),(set_offR R (by decide) _).trans ((World.cell?_of_block (a:=⟨R,1,none⟩) hR9).trans h.x2),by rw[World.frozen?_setCell];exact (World.frozen?_of_block (a:=⟨R,0,none⟩) hR9).trans h.f1,by rw[World.frozen?_setCell];exact (World.frozen?_of_block (a:=⟨R,1,none⟩) hR9).trans h.f2,own_setU own9 (p:=⟨R,0,none⟩) h.lt _,own_setU (own_kept h.o2 gV hg (λk hk e=>h.ne k e hk)) (p:=⟨R,0,none⟩) h.lt _,λk hk e=>by
   rcases hob with hb|hb
   ·exact h.ne k (hb▸hk) e
   ·rw[hb] at hk;injection hk with hk;have:=(h.o2.lt k e).2;omega,K0++K,λb hb=>?_,λW' hW=>⟨hF W' λb hb=>?_,hG W' λb hb=>?_⟩⟩,λk hk hne=>?_⟩
 ·have key:B0<=b/\b<V.heap.size/\v1.ownBlock≠some b/\v2.ownBlock≠some b/\v9.ownBlock≠some b:=by
   rcases List.mem_append.1 hb with hb|hb
   ·obtain ⟨a1,a2,a3,a4⟩:=hK0 b hb;refine ⟨a1,by omega,a3,a4,λe=>?_⟩;rcases hob with hb|hb
    ·exact a3 (hb▸e)
    ·rw[hb] at e;injection e with e;omega
   ·obtain ⟨a1,a2⟩:=hK b hb;refine ⟨by omega,a2,λe=>?_,λe=>?_,λe=>?_⟩
    ·have:=(h.o1.lt b e).2;omega
    ·have:=(h.o2.lt b e).2;omega
    ·rcases hob with hb|hb
     ·have:=(hol b (hb▸e)).2;omega
     ·rw[hb] at e;injection e with e;omega
  exact ⟨key.1,by simp;omega,key.2.2.2.2,key.2.2.2.1⟩
 ·obtain ⟨a1,a2,a3,a4⟩:=hK0 b hb;exact (hW b (List.mem_append_left _ hb)).trans ((st b (by omega)).trans (old b a2 a3))
 ·obtain ⟨a1,a2⟩:=hK b hb;exact (hW b (List.mem_append_right _ hb)).trans ((st b (by omega)).trans (hg.block b a2 (λe=>by have:=(hol b e.symm).2;omega)))
 ·exact (st k hne).trans (old k (by omega) (λe=>by have:=(hol k e).1;omega))
theorem Two.push2 {w:World} {R B0:Nat} {T1 T2:TypeId} {z1 z2:Nat} {W:World} {v1 v2:Value} {n1 n2:Nat} {c1 c2:List Value} {F:World->Prop} (h:Two w R B0 T1 T2 z1 z2 W v1 v2 n1 n2 c1 c2 F) {V W9:World} (gV:Gr W V) {v9:Value} {d:List Value}
  (own9:W9.ownsRow B0 T2 z2 v9 (n2+1) (c2++d)) (hg:V.grownBy W9 v2.ownBlock) (hob:v9.ownBlock=v2.ownBlock\/v9.ownBlock=some V.heap.size) {G:World->Prop} (K:List Nat) (hK:∀b∈K,W.heap.size<=b/\b<V.heap.size) (hG:∀W',(∀b∈K,W'.heap[b]?=V.heap[b]?)->G W') :
  Two w R B0 T1 T2 z1 z2 (W9.setCell ⟨R,1,none⟩ v9) v1 v9 n1 (n2+1) c1 (c2++d) (λW=>F W/\G W)/\∀k,k<B0->k≠R->(W9.setCell ⟨R,1,none⟩ v9).heap[k]?=W.heap[k]?:=by
 have hgz:=gV.size;have hz:=h.sz;have hlt:=h.lt;have hge:=h.ge;have hol:∀k,v2.ownBlock=some k->B0<=k/\k<W.heap.size:=h.o2.lt;have old:∀k,k<W.heap.size->v2.ownBlock≠some k->W9.heap[k]?=W.heap[k]?:=λk hk hn=>(hg.block k (Nat.lt_of_lt_of_le hk hgz) (λe=>hn e.symm)).trans (Below.block gV k hk);have hR9:W9.heap[R]?=W.heap[R]?:=old R (by omega) (λe=>by have:=(hol R e).1;omega);have hsz9:V.heap.size<=W9.heap.size:=hg.size;have hgw:Gr w W9:=Gr.grown (h.gr.trans gV) hg (λk hk=>by have:=(hol k hk).1;omega);have st:∀k,k≠R->(W9.setCell ⟨R,1,none⟩ v9).heap[k]?=W9.heap[k]?:=λk hk=>Below.heap_setCell W9 _ v9 k hk;obtain ⟨K0,hK0,hF⟩:=h.kp;refine ⟨⟨hgw.setCell (by show w.heap.size<=R;exact hge) _,hge,hlt,by simp;omega,(set_offR R (by decide) _).trans ((World.cell?_of_block (a:=⟨R,0,none⟩) hR9).trans h.x1),World.cell?_setCell_same' _ _ _ (by rw[(World.cell?_of_block (a:=⟨R,1,none⟩) hR9).trans h.x2];rfl),by rw[World.frozen?_setCell];exact (World.frozen?_of_block (a:=⟨R,0,none⟩) hR9).trans h.f1,by rw[World.frozen?_setCell];exact (World.frozen?_of_block (a:=⟨R,1,none⟩) hR9).trans h.f2,own_setU (own_kept h.o1 gV hg (λk hk e=>h.ne k hk e)) (p:=⟨R,1,none⟩) h.lt _,own_setU own9 (p:=⟨R,1,none⟩) h.lt _,λk hk e=>by
   rcases hob with hb|hb
   ·exact h.ne k hk (hb▸e)
   ·rw[hb] at e;injection e with e;have:=(h.o1.lt k hk).2;omega,K0++K,λb hb=>?_,λW' hW=>⟨hF W' λb hb=>?_,hG W' λb hb=>?_⟩⟩,λk hk hne=>?_⟩
 ·have key:B0<=b/\b<V.heap.size/\v1.ownBlock≠some b/\v2.ownBlock≠some b/\v9.ownBlock≠some b:=by
   rcases List.mem_append.1 hb with hb|hb
   ·obtain ⟨a1,a2,a3,a4⟩:=hK0 b hb;refine ⟨a1,by omega,a3,a4,λe=>?_⟩;rcases hob with hb|hb
    ·exact a4 (hb▸e)
    ·rw[hb] at e;injection e with e;omega
   ·obtain ⟨a1,a2⟩:=hK b hb;refine ⟨by omega,a2,λe=>?_,λe=>?_,λe=>?_⟩
    ·have:=(h.o1.lt b e).2;omega
    ·have:=(h.o2.lt b e).2;omega
    ·rcases hob with hb|hb
     ·have:=(hol b (hb▸e)).2;omega
     ·rw[hb] at e;injection e with e;omega
  exact ⟨key.1,by simp;omega,key.2.2.1,key.2.2.2.2⟩
 ·obtain ⟨a1,a2,a3,a4⟩:=hK0 b hb;exact (hW b (List.mem_append_left _ hb)).trans ((st b (by omega)).trans (old b a2 a4))
 ·obtain ⟨a1,a2⟩:=hK b hb;exact (hW b (List.mem_append_right _ hb)).trans ((st b (by omega)).trans (hg.block b a2 (λe=>by have:=(hol b e.symm).2;omega)))
 ·exact (st k hne).trans (old k (by omega) (λe=>by have:=(hol k e).1;omega))
theorem Two.nil {w:World} {R B0:Nat} {T1 T2:TypeId} {z1 z2:Nat} {W:World} (gr:Gr w W) (ge:w.heap.size<=R) (lt:R<B0) (sz:B0<=W.heap.size) (x1:W.cell? ⟨R,0,none⟩=some (.slice none 0 0)) (x2:W.cell? ⟨R,1,none⟩=some (.slice none 0 0)) (f1:W.frozen? ⟨R,0,none⟩=false) (f2:W.frozen? ⟨R,1,none⟩=false) {F:World->Prop} (hF:∀W,F W) :
  Two w R B0 T1 T2 z1 z2 W (.slice none 0 0) (.slice none 0 0) 0 0 [] [] F:=
 ⟨gr,ge,lt,sz,x1,x2,f1,f2,World.ownsRow_nil _ _ _ _,World.ownsRow_nil _ _ _ _,λk h=>(by cases h),[],λb hb=>(by cases hb),λW' _=>hF W'⟩
def valD:List UInt8->Nat->Nat
 | [],n=>n
 | c::r,n=>valD r (n*10+(c.toNat-48))
def padS (l:List UInt8):List UInt8:=(l++List.replicate 6 48).take 6
def upS (l:List UInt8):Nat:=bif Nat.ble 7 l.length&&Nat.ble 53 (l.getD 6 0).toNat then 1 else 0
def fracD (l:List UInt8):Nat:=valD (padS l) 0+upS l
def absD (l:List UInt8):Option Nat:=
 match cutS 46 l with
 | none=>bif allDg l then some (valD l 0*1000000) else none
 | some (a,b)=>bif allDg a&&allDg b then some (valD a 0*1000000+fracD b) else none
def plusS (l:List UInt8):Bool:=match l with|[]=>false|c::_=>c==43
def bareS (l:List UInt8):List UInt8:=bif minusS l||plusS l then l.drop 1 else l
def decV (l:List UInt8):Option Int:=
 match absD (bareS l) with
 | none=>none
 | some n=>bif Nat.ble n maxN then some (bif minusS l then -(n:Int) else (n:Int)) else none
theorem ble_of {a b:Nat} (h:a<=b):Nat.ble a b=true:=by rw[Nat.ble_eq];exact h
theorem ble_not {a b:Nat} (h:¬a<=b):Nat.ble a b=false:=by
 cases e:Nat.ble a b
 ·rfl
 ·rw[Nat.ble_eq] at e;exact absurd e h
theorem of_blt {a b:Nat} (h:Nat.blt a b=true):a<b:=by rwa [Nat.blt_eq] at h
theorem valD_ge:∀(l:List UInt8) (n:Nat),n<=valD l n
 | [],n=>Nat.le_refl _
 | c::r,n=>Nat.le_trans (by omega) (valD_ge r (n*10+(c.toNat-48)))
theorem valD_app:∀(l m:List UInt8) (n:Nat),valD (l++m) n=valD m (valD l n)
 | [],_,_=>rfl
 | c::r,m,n=>valD_app r m _
theorem valD_add:∀(l:List UInt8) (n:Nat),valD l n=n*10^l.length+valD l 0
 | [],n=>by simp[valD]
 | c::r,n=>by
  rw[valD,valD_add r,valD,valD_add r (0*10+(c.toNat-48)),List.length_cons,Nat.pow_succ];have e:(n*10+(c.toNat-48))*10^r.length=n*(10^r.length*10)+(c.toNat-48)*10^r.length:=by
   rw[Nat.add_mul,Nat.mul_assoc,Nat.mul_comm 10]
  rw[e,Nat.zero_mul,Nat.zero_add,Nat.add_assoc]
theorem valD_lt:∀(l:List UInt8),l.all isDg=true->valD l 0<10^l.length
 | [],_=>by simp[valD]
 | c::r,h=>by
  rw[List.all_cons,Bool.and_eq_true] at h;have ih:=valD_lt r h.2;have hc:=(isDg_iff c).1 h.1;rw[valD,valD_add,List.length_cons,Nat.pow_succ];have:(0*10+(c.toNat-48))*10^r.length<=9*10^r.length:=Nat.mul_le_mul_right _ (by omega);omega
theorem numS_val:∀(l:List UInt8) (n:Nat),n<=maxN->l.all isDg=true->numS l n=bif Nat.ble (valD l n) maxN then some (valD l n) else none
 | [],n,hn,_=>by
  simp only[numS,valD];rw[ble_of hn];rfl
 | c::r,n,hn,h=>by
  rw[List.all_cons,Bool.and_eq_true] at h;have hc:=(isDg_iff c).1 h.1;rw[valD,numS];cases hb:Nat.blt ((maxN-(c.toNat-48))/10) n
  ·rw[cond_false];have hle:¬(maxN-(c.toNat-48))/10<n:=λe=>by rw[<-Nat.blt_eq,hb] at e;cases e
   exact numS_val r _ (by unfold maxN at *;omega) h.2
  ·rw[cond_true];have hgt:=of_blt hb;have hn2:¬valD r (n*10+(c.toNat-48))<=maxN:=λe=>by
    have:=valD_ge r (n*10+(c.toNat-48));unfold maxN at *;omega
   rw[ble_not hn2];rfl
def capS:List UInt8->Nat->Option Nat
 | [],n=>some n
 | c::r,n=>bif Nat.blt ((maxN-9)/10) n then none else capS r (n*10+(c.toNat-48))
theorem cap_val:∀(l:List UInt8) (n:Nat),capS l n=some (valD l n)\/(capS l n=none/\maxN/1000000<valD l n)
 | [],n=> .inl rfl
 | c::r,n=>by
  rw[capS,valD];cases hb:Nat.blt ((maxN-9)/10) n
  ·exact cap_val r _
  ·refine .inr ⟨rfl,?_⟩;have hgt:=of_blt hb;have:=valD_ge r (n*10+(c.toNat-48));unfold maxN at *;omega
theorem strip_val:∀l:List UInt8,valD (stripS l) 0=valD l 0
 | []=>rfl
 | [c]=>rfl
 | c::d::r=>by
  unfold stripS;cases hc:(c==48)
  ·rfl
  ·have:c=48:=by simpa using hc
   subst this;rw[cond_true,strip_val (d::r)];rfl
theorem allDg_all {l:List UInt8} (h:allDg l=true):l.all isDg=true:=by
 unfold allDg at h;rw[Bool.and_eq_true] at h;exact h.1
theorem pad_all {l:List UInt8} (h:l.all isDg=true):(padS l).all isDg=true:=by
 unfold padS;rw[List.all_eq_true] at *;intro x hx;rcases List.mem_append.1 (List.mem_of_mem_take hx) with h1|h1
 ·exact h x h1
 ·rw[(List.mem_replicate.1 h1).2];rfl
theorem pad_len (l:List UInt8):(padS l).length=6:=by simp[padS]
theorem upS_le (l:List UInt8):upS l<=1:=by unfold upS;cases (Nat.ble 7 l.length&&Nat.ble 53 (l.getD 6 0).toNat)<;>decide
theorem frac_le {l:List UInt8} (h:l.all isDg=true):fracD l<=1000000:=by
 have h1:=valD_lt _ (pad_all h);rw[pad_len] at h1;have h2:=upS_le l;unfold fracD;omega
def progD (a b:List UInt8):Option Nat:=match numS (a++padS b) 0 with
 | none=>none
 | some n=>bif Nat.ble (n+upS b) maxN then some (n+upS b) else none
def refD (a b:List UInt8):Option Nat:=match capS (stripS a) 0 with
 | none=>none
 | some n=>bif Nat.blt (maxN/1000000) n then none else bif Nat.ble (n*1000000+fracD b) maxN then some (n*1000000+fracD b) else none
def capN (n:Nat):Option Nat:=bif Nat.ble n maxN then some n else none
theorem capN_no {n:Nat} (h:maxN<n):capN n=none:=by
 unfold capN;rw[ble_not (by omega)];rfl
theorem prog_val {a b:List UInt8} (ha:a.all isDg=true) (hb:b.all isDg=true):progD a b=capN (valD a 0*1000000+fracD b):=by
 have e:valD (a++padS b) 0=valD a 0*1000000+valD (padS b) 0:=by
  rw[valD_app,valD_add,pad_len]
 unfold progD;rw[numS_val _ _ (by decide) (by rw[List.all_append,ha,pad_all hb];rfl),e];cases h:Nat.ble (valD a 0*1000000+valD (padS b) 0) maxN
 ·have h1:¬valD a 0*1000000+valD (padS b) 0<=maxN:=λe=>by rw[<-Nat.ble_eq,h] at e;cases e
  rw[capN_no (by unfold fracD;omega)];rfl
 ·simp only[cond_true];unfold capN fracD;rw[Nat.add_assoc]
theorem ref_val {a b:List UInt8}:refD a b=capN (valD a 0*1000000+fracD b):=by
 unfold refD;rcases cap_val (stripS a) 0 with h|⟨h,h2⟩
 ·rw[h,strip_val];cases hb:Nat.blt (maxN/1000000) (valD a 0)
  ·simp only[hb,cond_false];rfl
  ·have hgt:=of_blt hb;rw[capN_no (by unfold maxN at *;omega)];simp only[hb,cond_true]
 ·rw[strip_val] at h2;rw[h,capN_no (by unfold maxN at *;omega)]
theorem abs_cut {l a b:List UInt8} (h:cutS 46 l=some (a,b)):absD l=bif allDg a&&allDg b then some (valD a 0*1000000+fracD b) else none:=by
 unfold absD;rw[h]
theorem abs_none {l:List UInt8} (h:cutS 46 l=none):absD l=bif allDg l then some (valD l 0*1000000) else none:=by
 unfold absD;rw[h]
theorem frac_nil:fracD []=0:=by kernel_rfl
def signV (m:Bool):Option Nat->Option Int
 | none=>none
 | some n=>some (bif m then -(n:Int) else (n:Int))
theorem tl_of {a b:ByteArray} (h:a.toList=b.toList):a=b:=by
 rw[ByteArray.toList_eq,ByteArray.toList_eq] at h;exact ByteArray.ext (Array.toList_inj.1 h)
theorem tl_ne {a b:ByteArray} (h:a≠b):(a.toList==b.toList)=false:=beq_eq_false_iff_ne.2 λe=>h (tl_of e)
theorem tl_eq {a b:ByteArray} (h:(a.toList==b.toList)=true):a=b:=tl_of (by simpa using h)
theorem tl_avg:(⟨#[97,118,103]⟩:ByteArray).toList=[97,118,103]:=by rw[ByteArray.toList_eq]
def nameS (kind:Int):ByteArray:=
 if kind=1 then ⟨#[97,118,101,114,97,103,101]⟩ else if kind=2 then ⟨#[115,117,109]⟩ else if kind=3 then ⟨#[108,97,115,116]⟩ else if kind=4 then ⟨#[109,97,120]⟩ else if kind=5 then ⟨#[109,105,110]⟩ else ⟨#[]⟩
def avgS:ByteArray:=⟨#[97,118,103]⟩
def kindI (s:ByteArray):Int:=
 if s=avgS then 1 else if nameS 1=s then 1 else if nameS 2=s then 2 else if nameS 3=s then 3 else if nameS 4=s then 4 else if nameS 5=s then 5 else 0
theorem kindI_at {s:ByteArray} {k:Int} (ha:s≠avgS) (h1:1<=k) (h5:k<=5) (hb:∀j,1<=j->j<k->nameS j≠s) (hk:nameS k=s):kindI s=k:=by
 have:k=1\/k=2\/k=3\/k=4\/k=5:=by omega
 unfold kindI;rw[if_neg ha];rcases this with rfl|rfl|rfl|rfl|rfl
 ·rw[if_pos hk]
 ·rw[if_neg (hb 1 (by omega) (by omega)),if_pos hk]
 ·rw[if_neg (hb 1 (by omega) (by omega)),if_neg (hb 2 (by omega) (by omega)),if_pos hk]
 ·rw[if_neg (hb 1 (by omega) (by omega)),if_neg (hb 2 (by omega) (by omega)),if_neg (hb 3 (by omega) (by omega)),if_pos hk]
 ·rw[if_neg (hb 1 (by omega) (by omega)),if_neg (hb 2 (by omega) (by omega)),if_neg (hb 3 (by omega) (by omega)),if_neg (hb 4 (by omega) (by omega)),if_pos hk]
theorem kindI_none {s:ByteArray} (ha:s≠avgS) (hb:∀j,1<=j->j<(6:Int)->nameS j≠s):kindI s=0:=by
 unfold kindI;rw[if_neg ha,if_neg (hb 1 (by omega) (by omega)),if_neg (hb 2 (by omega) (by omega)),if_neg (hb 3 (by omega) (by omega)),if_neg (hb 4 (by omega) (by omega)),if_neg (hb 5 (by omega) (by omega))]
theorem name_any (kind:Int) (w:World):Calls Tryz.prog 83 #[.int .i64 kind] w λe w'=>e= .returned (.string (nameS kind))/\w=w':=by
 by_cases k:kind=1\/kind=2\/kind=3\/kind=4\/kind=5
 ·rcases k with rfl|rfl|rfl|rfl|rfl;all_goals (
   go_enter Tryz.func83,Tryz.ntmps83;go_wp2;go_ret;exact ⟨rfl,rfl⟩)
 simp only[not_or] at k;obtain ⟨k1,k2,k3,k4,k5⟩:=k;have hv:nameS kind=⟨#[]⟩:=by simp[nameS,k1,k2,k3,k4,k5]
 rw[hv];clear hv;have e1:=beq_eq_false_iff_ne.2 k1;have e2:=beq_eq_false_iff_ne.2 k2;have e3:=beq_eq_false_iff_ne.2 k3;have e4:=beq_eq_false_iff_ne.2 k4;have e5:=beq_eq_false_iff_ne.2 k5;clear k1 k2 k3 k4 k5;go_enter Tryz.func83,Tryz.ntmps83;go_wp2;go_ret;exact ⟨rfl,rfl⟩
theorem kind_any (s:ByteArray) (w:World):Calls Tryz.prog 52 #[.string s] w λe w'=>e= .returned (.int .i64 (kindI s))/\w=w':=by
 by_cases ha:s=avgS
 ·have hv:kindI s=1:=by simp[kindI,ha]
  rw[hv];clear hv;have hb:(s.toList==[97,118,103])=true:=by rw[ha];exact beq_iff_eq.2 tl_avg
  clear ha;go_enter Tryz.func52,Tryz.ntmps52;go_wp2;go_ret;exact ⟨rfl,rfl⟩
 have hb:(s.toList==[97,118,103])=false:=by rw[<-tl_avg];exact tl_ne ha
 have HA:=Lib.hid ha;clear ha;go_enter Tryz.func52,Tryz.ntmps52;go_wp2
 go_loop [3] (λi=>∃k:Int,1<=k/\k<=6/\i= .int .i64 k/\∀j,1<=j->j<k->nameS j≠s) (λi=>(6-intOf i).toNat)
 case atStart=>exact ⟨1,by omega,by omega,rfl,λj h h'=>by omega⟩
 case round=>
  obtain ⟨k,hk1,hk6,rfl,hall⟩:=hrel;have HALL:=Lib.hid hall;clear hall;by_cases hlt:k<=5
  ·have HN:=Lib.hid (name_any k w);cases hq:((nameS k).toList==s.toList)
   ·go_wp2_with (go_at_call 83;refine HN.out.mono ?_;rintro e w1 ⟨rfl,rfl⟩);go_round;case rel=>
     refine ⟨k+1,by omega,by omega,by go_num,λj h h'=>?_⟩;by_cases hj:j=k
     ·subst hj;exact λe=>(beq_eq_false_iff_ne.1 hq) (by rw[e])
     ·exact HALL.out j h (by omega)
    case measure=>simp[intOf];omega
   ·have HV:=Lib.hid (kindI_at HA.out hk1 hlt HALL.out (tl_eq hq));go_wp2_with (go_at_call 83;refine HN.out.mono ?_;rintro e w1 ⟨rfl,rfl⟩);go_ret;exact ⟨by rw[HV.out];rfl,rfl⟩
  ·obtain rfl:k=6:=by omega
   have HV:=Lib.hid (kindI_none HA.out HALL.out);go_wp2;go_ret;exact ⟨by rw[HV.out];rfl,rfl⟩
theorem rname_any (kind:Int) (w:World):Calls Tryz.prog 72 #[.int .i64 kind] w λe w'=>e= .returned (.string (nameS kind))/\w=w':=by
 by_cases k:kind=1\/kind=2\/kind=3\/kind=4\/kind=5
 ·rcases k with rfl|rfl|rfl|rfl|rfl;all_goals (
   go_enter Tryz.func72,Tryz.ntmps72;go_wp2;go_ret;exact ⟨rfl,rfl⟩)
 simp only[not_or] at k;obtain ⟨k1,k2,k3,k4,k5⟩:=k;have hv:nameS kind=⟨#[]⟩:=by simp[nameS,k1,k2,k3,k4,k5]
 rw[hv];clear hv;have e1:=beq_eq_false_iff_ne.2 k1;have e2:=beq_eq_false_iff_ne.2 k2;have e3:=beq_eq_false_iff_ne.2 k3;have e4:=beq_eq_false_iff_ne.2 k4;have e5:=beq_eq_false_iff_ne.2 k5;clear k1 k2 k3 k4 k5;go_enter Tryz.func72,Tryz.ntmps72;go_wp2;go_ret;exact ⟨rfl,rfl⟩
theorem rkind_any (s:ByteArray) (w:World):Calls Tryz.prog 43 #[.string s] w λe w'=>e= .returned (.int .i64 (kindI s))/\w=w':=by
 by_cases ha:s=avgS
 ·have hv:kindI s=1:=by simp[kindI,ha]
  rw[hv];clear hv;have hb:(s.toList==[97,118,103])=true:=by rw[ha];exact beq_iff_eq.2 tl_avg
  clear ha;go_enter Tryz.func43,Tryz.ntmps43;go_wp2;go_ret;exact ⟨rfl,rfl⟩
 have hb:(s.toList==[97,118,103])=false:=by rw[<-tl_avg];exact tl_ne ha
 have HA:=Lib.hid ha;clear ha;go_enter Tryz.func43,Tryz.ntmps43;go_wp2
 go_loop [3] (λi=>∃k:Int,1<=k/\k<=6/\i= .int .i64 k/\∀j,1<=j->j<k->nameS j≠s) (λi=>(6-intOf i).toNat)
 case atStart=>exact ⟨1,by omega,by omega,rfl,λj h h'=>by omega⟩
 case round=>
  obtain ⟨k,hk1,hk6,rfl,hall⟩:=hrel;have HALL:=Lib.hid hall;clear hall;by_cases hlt:k<=5
  ·have HN:=Lib.hid (rname_any k w);cases hq:((nameS k).toList==s.toList)
   ·go_wp2_with (go_at_call 72;refine HN.out.mono ?_;rintro e w1 ⟨rfl,rfl⟩);go_round;case rel=>
     refine ⟨k+1,by omega,by omega,by go_num,λj h h'=>?_⟩;by_cases hj:j=k
     ·subst hj;exact λe=>(beq_eq_false_iff_ne.1 hq) (by rw[e])
     ·exact HALL.out j h (by omega)
    case measure=>simp[intOf];omega
   ·have HV:=Lib.hid (kindI_at HA.out hk1 hlt HALL.out (tl_eq hq));go_wp2_with (go_at_call 72;refine HN.out.mono ?_;rintro e w1 ⟨rfl,rfl⟩);go_ret;exact ⟨by rw[HV.out];rfl,rfl⟩
  ·obtain rfl:k=6:=by omega
   have HV:=Lib.hid (kindI_none HA.out HALL.out);go_wp2;go_ret;exact ⟨by rw[HV.out];rfl,rfl⟩
def linesS:List UInt8->List (List UInt8)
 | []=>[]
 | c::r=>bif c==10 then [c]::linesS r else match linesS r with
  | []=>[[c]]
  | p::m=>(c::p)::m
theorem lines_end:∀(x r:List UInt8),(10:UInt8)∉x->linesS (x++10::r)=(x++[10])::linesS r
 | [],r,_=>rfl
 | c::x,r,h=>by
  have hc:(c==10)=false:=beq_eq_false_iff_ne.2 (λe=>h (by rw[e];exact List.mem_cons_self));have:=lines_end x r (λhm=>h (List.mem_cons_of_mem _ hm));rw[List.cons_append,linesS,hc,cond_false,this];rfl
theorem lines_last:∀(c:UInt8) (x:List UInt8),(10:UInt8)∉c::x->linesS (c::x)=[c::x]
 | c,[],h=>by
  have hc:(c==10)=false:=beq_eq_false_iff_ne.2 (λe=>h (by rw[e];exact List.mem_cons_self));rw[linesS,hc];rfl
 | c,d::x,h=>by
  have hc:(c==10)=false:=beq_eq_false_iff_ne.2 (λe=>h (by rw[e];exact List.mem_cons_self));rw[linesS,hc,cond_false,lines_last d x (λhm=>h (List.mem_cons_of_mem _ hm))]
def trimS (l:List UInt8):List UInt8:=Lib.trimSuffix l [10]
theorem trim_end (x:List UInt8):trimS (x++[10])=x:=by
 unfold trimS Lib.trimSuffix Lib.hasSuffix;simp
def skipS:List UInt8->Bool
 | []=>true
 | c::_=>c==35
theorem idx_at:∀(x r:List UInt8),(10:UInt8)∉x->Lib.indexByte (x++10::r) 10=x.length
 | [],r,_=>rfl
 | c::x,r,h=>by
  have hc:(c==10)=false:=beq_eq_false_iff_ne.2 (λe=>h (by rw[e];exact List.mem_cons_self));have:=idx_at x r (λhm=>h (List.mem_cons_of_mem _ hm));rw[List.cons_append];unfold Lib.indexByte;rw[hc,this];have h2:((x.length:Int) == -1)=false:=beq_eq_false_iff_ne.2 (by omega);rw[h2];simp
theorem idx_none:∀x:List UInt8,(10:UInt8)∉x->Lib.indexByte x 10= -1
 | [],_=>rfl
 | c::x,h=>by
  have hc:(c==10)=false:=beq_eq_false_iff_ne.2 (λe=>h (by rw[e];exact List.mem_cons_self));have:=idx_none x (λhm=>h (List.mem_cons_of_mem _ hm));unfold Lib.indexByte;rw[hc,this];rfl
theorem split_ten:∀l:List UInt8,(10:UInt8)∈l->∃x r,l=x++10::r/\(10:UInt8)∉x
 | [],h=>by cases h
 | c::l,h=>by
  by_cases hc:c=10
  ·exact ⟨[],l,by rw[hc];rfl,by simp⟩
  ·obtain ⟨x,r,e,hn⟩:=split_ten l (by rcases List.mem_cons.1 h with h|h;exact absurd h.symm hc;exact h);refine ⟨c::x,r,by rw[e];rfl,λhm=>?_⟩;rcases List.mem_cons.1 hm with h|h
   ·exact hc h.symm
   ·exact hn h
theorem part_none (c:UInt8):∀x:List UInt8,c∉x->partS c x=[x]
 | [],_=>rfl
 | d::x,h=>by
  have hc:(d==c)=false:=beq_eq_false_iff_ne.2 (λe=>h (by rw[e];exact List.mem_cons_self));rw[partS,hc,cond_false,part_none c x (λhm=>h (List.mem_cons_of_mem _ hm))]
theorem part_at (c:UInt8):∀x r:List UInt8,c∉x->partS c (x++c::r)=x::partS c r
 | [],r,_=>by rw[List.nil_append,partS,beq_self_eq_true];rfl
 | d::x,r,h=>by
  have hc:(d==c)=false:=beq_eq_false_iff_ne.2 (λe=>h (by rw[e];exact List.mem_cons_self));rw[List.cons_append,partS,hc,cond_false,part_at c x r (λhm=>h (List.mem_cons_of_mem _ hm))]
structure SR where
 pat:List UInt8
 ar:List (Nat×Nat)
structure RR where
 pat:List UInt8
 kind:Int
 xff:Int
def wSch:List UInt8:=[115,99,104,101,109,97]
def wRul:List UInt8:=[114,117,108,101]
def patB (x:List UInt8):Bool:= !x.isEmpty&&errX x==0
def schS (x y:List UInt8):Option SR:=bif patB x then (retS y).map (SR.mk x) else none
def xffS (z:List UInt8):Option Int:=match decV z with
 | none=>none
 | some n=>bif decide (0<=n)&&decide (n<=1000000) then some n else none
def rulS (x y z:List UInt8):Option RR:=bif patB x&&kindI ⟨y.toArray⟩ != 0 then (xffS z).map (RR.mk x (kindI ⟨y.toArray⟩)) else none
inductive Ln
 | s (v:SR)
 | r (v:RR)
 | bad
def lnS:Option SR->Ln
 | some v=> .s v
 | none=> .bad
def lnR:Option RR->Ln
 | some v=> .r v
 | none=> .bad
def wordsS:List (List UInt8)->Ln
 | [a,x,y]=>bif a==wSch then lnS (schS x y) else .bad
 | [a,x,y,z]=>bif a==wRul then lnR (rulS x y z) else .bad
 | _=> .bad
def lineS (l:List UInt8):Ln:=wordsS (partS 32 l)
structure St where
 S:List SR
 R:List RR
def addS (st:St):Ln->Option St
 | .s v=>some ⟨st.S++[v],st.R⟩
 | .r v=>some ⟨st.S,st.R++[v]⟩
 | .bad=>none
def runS:List (List UInt8)->St->Option St
 | [],st=>some st
 | l::m,st=>bif skipS l then runS m st else match addS st (lineS l) with
  | none=>none
  | some s=>runS m s
def parseS (t:List UInt8):Option St:=runS (partS 10 t) ⟨[],[]⟩
theorem lines_parts:∀t:List UInt8,partS 10 t=(linesS t).map trimS\/partS 10 t=(linesS t).map trimS++[[]]:=by
 intro t;by_cases h:(10:UInt8)∈t
 ·obtain ⟨x,r,e,hx⟩:=split_ten t h;rw[e,part_at 10 x r hx,lines_end x r hx,List.map_cons,trim_end];have hl:r.length<t.length:=by rw[e];simp;omega
  rcases lines_parts r with h2|h2
  ·left;rw[h2]
  ·right;rw[h2];rfl
 ·rw[part_none 10 t h];cases t with
  | nil=>right;rfl
  | cons c x=>
   left;rw[lines_last c x h,List.map_singleton];have:trimS (c::x)=c::x:=by
    unfold trimS Lib.trimSuffix;cases hs:Lib.hasSuffix (c::x) [10]
    ·rfl
    ·exfalso;unfold Lib.hasSuffix at hs;have hs:[10] <:+ c::x:=by simpa using hs
     exact h (hs.subset (by simp))
   rw[this]
termination_by t=>t.length
theorem run_append:∀(l m:List (List UInt8)) (st:St),runS (l++m) st=(runS l st).bind (runS m)
 | [],m,st=>rfl
 | x::l,m,st=>by
  rw[List.cons_append,runS,runS];cases skipS x
  ·simp only[cond_false];cases addS st (lineS x) with
   | none=>rfl
   | some s=>exact run_append l m s
  ·simp only[cond_true];exact run_append l m st
theorem run_lines (t:List UInt8):runS ((linesS t).map trimS) ⟨[],[]⟩=parseS t:=by
 unfold parseS;rcases lines_parts t with h|h
 ·rw[h]
 ·rw[h,run_append];cases runS ((linesS t).map trimS) ⟨[],[]⟩<;>rfl
def sumL (m:List (List UInt8)):Nat:=(m.map λp=>p.length+1).sum
theorem part_sum (c:UInt8):∀l:List UInt8,sumL (partS c l)=l.length+1
 | []=>rfl
 | x::r=>by
  have ih:=part_sum c r;unfold partS;cases x==c
  ·rw[cond_false];cases h:partS c r with
   | nil=>rw[h] at ih;exact absurd ih (by simp[sumL])
   | cons p m=>rw[h] at ih;simp only[sumL,List.map_cons,List.sum_cons,List.length_cons] at ih ⊢;omega
  ·rw[cond_true];simp only[sumL,List.map_cons,List.sum_cons,List.length_cons,List.length_nil] at ih ⊢;omega
theorem line_len {l:List UInt8} (h:lineS l ≠ .bad):9<=l.length+1:=by
 rw[<-part_sum 32 l];unfold lineS at h;generalize partS 32 l=m at h ⊢;match m,h with
 | [a,x,y],h=>
  cases ha:(a==wSch)
  ·simp only[wordsS,ha,cond_false,ne_eq,not_true_eq_false] at h
  ·have:a=wSch:=by simpa using ha
   subst this;simp[sumL,wSch];omega
 | [a,x,y,z],h=>
  cases ha:(a==wRul)
  ·simp only[wordsS,ha,cond_false,ne_eq,not_true_eq_false] at h
  ·have:a=wRul:=by simpa using ha
   subst this;have hx:1<=x.length:=by
    cases x with
    | nil=>exact absurd rfl h
    | cons c x=>simp
   simp[sumL,wRul];omega
 | [],h=>exact absurd rfl h
 | [_],h=>exact absurd rfl h
 | [_,_],h=>exact absurd rfl h
 | _::_::_::_::_::_,h=>exact absurd rfl h
theorem run_len:∀(m:List (List UInt8)) (st s:St),runS m st=some s->9*(s.S.length+s.R.length)<=9*(st.S.length+st.R.length)+sumL m
 | [],st,s,h=>by
  simp only[runS,Option.some.injEq] at h;subst h;exact Nat.le_add_right _ _
 | l::m,st,s,h=>by
  rw[runS] at h;have e:sumL (l::m)=l.length+1+sumL m:=by simp[sumL]
  rw[e];cases hs:skipS l
  ·rw[hs,cond_false] at h;cases ha:addS st (lineS l) with
   | none=>rw[ha] at h;cases h
   | some s1=>
    rw[ha] at h;have ih:=run_len m s1 s h;have hb:lineS l ≠ .bad:=λe=>by rw[e] at ha;cases ha
    have hl:=line_len hb;have h1:s1.S.length+s1.R.length=st.S.length+st.R.length+1:=by
     cases hq:lineS l with
     | s v=>rw[hq] at ha;injection ha with ha;subst ha;simp;omega
     | r v=>rw[hq] at ha;injection ha with ha;subst ha;simp;omega
     | bad=>exact absurd hq hb
    omega
  ·rw[hs,cond_true] at h;have ih:=run_len m st s h;omega
theorem parse_few {t:List UInt8} {s:St} (h:parseS t=some s) (hl:t.length<=300):s.S.length+s.R.length<=40:=by
 have:=run_len _ _ _ h;rw[part_sum] at this;simp at this;omega
noncomputable def inP (p nm:List UInt8):Bool:=isC (codeY p) nm
noncomputable def hdrR (st:St) (nm:List UInt8):Option (Int×Int×List (Nat×Nat)):=match st.S.find? (λs=>inP s.pat nm) with
 | none=>none
 | some s=>match st.R.find? (λr=>inP r.pat nm) with
  | none=>some (1,500000,s.ar)
  | some r=>some (r.kind,r.xff,s.ar)
end Go.Proofs.YtjapddfnpmlifaaGreatDoor
