import Derived.Test.YtjapddfnpmlifaaGreatDoorRunRxComp
import Derived.Test.YtjapddfnpmlifaaGreatDoorProg
import Derived.Test.YtjapddfnpmlifaaGreatDoorRunFxBase
import Derived.Maps.Own
import Derived.Maps.Views
import Derived.Lib.Hide
import Derived.Test.YtjapddfnpmlifaaGreatDoorPkShelf
import Derived.Deep.Cut
import Derived.Deep.CutRange
import Derived.Test.YtjapddfnpmlifaaGreatDoorRunRxSpec
set_option linter.all false
set_option maxRecDepth 1000000
set_option maxHeartbeats 12800000
namespace Go.Proofs.YtjapddfnpmlifaaGreatDoor
open Go.RowKit
def succS (code:List In) (t:List UInt8) (pc:Int) (at':Nat):List (Int×Nat):=
 if pc<0 then [] else
 match code[pc.toNat]? with
 | none=>[]
 | some v=>
  if v.op=1 then (if h:at'<t.length then (if hasS v.ps (t[at'].toNat:Int) then [(pc+1,at'+1)] else []) else [])
  else if v.op=2 then [(v.y,at'),(v.x,at')]
  else if v.op=3 then [(v.x,at')]
  else if v.op=4 then [(pc+1,at')]
  else if v.op=5 then (if at'=0 then [(pc+1,at')] else [])
  else if v.op=6 then (if at'=t.length then [(pc+1,at')] else [])
  else []
inductive Rc (code:List In) (t:List UInt8) (S:Nat->Prop):Int->Nat->Prop
 | start (p:Nat):S p->p<=t.length->Rc code t S 0 p
 | step (pc:Int) (p:Nat) (q:Int×Nat):Rc code t S pc p->q∈succS code t pc p->Rc code t S q.1 q.2
def InR (code:List In) (pc:Int):Prop:=0<=pc/\pc<code.length
def AccS (code:List In) (t:List UInt8) (S:Nat->Prop):Prop:=∃(k:Nat) (p:Nat) (h:k<code.length),Rc code t S k p/\code[k].op=7
open Classical in
noncomputable def isC (code:List In) (t:List UInt8):Bool:=decide (AccS code t λp=>p<=t.length)
theorem Rc.le {code:List In} {t:List UInt8} {S:Nat->Prop} {pc:Int} {p:Nat} (h:Rc code t S pc p):p<=t.length:=by
 induction h with
 | start p _ hp=>exact hp
 | step pc p q _ hq ih=>
  unfold succS at hq;split at hq
  ·cases hq
  ·split at hq
   ·cases hq
   ·split at hq
    ·split at hq
     ·split at hq
      ·rw[List.mem_singleton] at hq;subst hq;simp only;omega
      ·cases hq
     ·cases hq
    ·split at hq
     ·simp only[List.mem_cons,List.not_mem_nil,or_false] at hq;rcases hq with rfl|rfl<;>exact ih
     ·split at hq
      ·rw[List.mem_singleton] at hq;subst hq;exact ih
      ·split at hq
       ·rw[List.mem_singleton] at hq;subst hq;exact ih
       ·split at hq
        ·split at hq
         ·rw[List.mem_singleton] at hq;subst hq;exact ih
         ·cases hq
        ·split at hq
         ·split at hq
          ·rw[List.mem_singleton] at hq;subst hq;exact ih
          ·cases hq
         ·cases hq
theorem Rc.mono {code:List In} {t:List UInt8} {S S':Nat->Prop} (hS:∀p,S p->S' p) {pc:Int} {p:Nat} (h:Rc code t S pc p):Rc code t S' pc p:=by
 induction h with
 | start p hp h=>exact .start p (hS p hp) h
 | step pc p q _ hq ih=>exact .step pc p q ih hq
theorem Rc.one {code:List In} {t:List UInt8} {S:Nat->Prop} {pc:Int} {p:Nat} (h:Rc code t S pc p):∃i,S i/\i<=t.length/\Rc code t (· = i) pc p:=by
 induction h with
 | start p hp h=>exact ⟨p,hp,h, .start p rfl h⟩
 | step pc p q _ hq ih=>
  obtain ⟨i,h1,h2,h3⟩:=ih;exact ⟨i,h1,h2, .step pc p q h3 hq⟩
theorem succS_at {code:List In} {t:List UInt8} {k:Nat} (h:k<code.length) (p:Nat):succS code t k p =
  (if code[k].op=1 then (if h:p<t.length then (if hasS code[k].ps (t[p].toNat:Int) then [((k:Int)+1,p+1)] else []) else [])
  else if code[k].op=2 then [(code[k].y,p),(code[k].x,p)]
  else if code[k].op=3 then [(code[k].x,p)]
  else if code[k].op=4 then [((k:Int)+1,p)]
  else if code[k].op=5 then (if p=0 then [((k:Int)+1,p)] else [])
  else if code[k].op=6 then (if p=t.length then [((k:Int)+1,p)] else [])
  else []):=by
 unfold succS;rw[if_neg (by omega),Int.toNat_natCast,List.getElem?_eq_getElem h]
theorem succS_out {code:List In} {t:List UInt8} {pc:Int} (h:¬InR code pc) (p:Nat):succS code t pc p=[]:=by
 unfold succS;split
 ·rfl
 ·rw[List.getElem?_eq_none];unfold InR at h;omega
theorem Rc.all {code:List In} {t:List UInt8} {i:Nat} (seen:Nat->Nat->Prop) (h0:InR code 0->seen 0 i)
  (hc:∀k p,k<code.length->seen k p->∀q∈succS code t k p,InR code q.1->seen q.1.toNat q.2) {pc:Int} {p:Nat} (h:Rc code t (· = i) pc p):InR code pc->seen pc.toNat p:=by
 induction h with
 | start p hp _=>intro hi;subst hp;exact h0 hi
 | step pc p q _ hq ih=>
  intro hi;by_cases hpc:InR code pc
  ·have h1:=hpc.1;have h2:=hpc.2;have h3:=hc pc.toNat p (by omega) (ih hpc) q (by rw[Int.toNat_of_nonneg h1];exact hq) hi;exact h3
  ·rw[succS_out hpc] at hq;cases hq
open Classical in
theorem acc_of {code:List In} {t:List UInt8} {i:Nat} (hi:i<=t.length) (h:AccS code t (· = i)):isC code t=true:=by
 obtain ⟨k,p,hk,h1,h2⟩:=h;unfold isC;exact decide_eq_true ⟨k,p,hk,h1.mono (λ_ e=>e▸hi),h2⟩
open Classical in
theorem acc_not {code:List In} {t:List UInt8} (h:∀i,i<=t.length->¬AccS code t (· = i)):isC code t=false:=by
 unfold isC;refine decide_eq_false ?_;rintro ⟨k,p,hk,h1,h2⟩;obtain ⟨i, -,hi,h3⟩:=h1.one;exact h i hi ⟨k,p,hk,h3,h2⟩
def succE (code:List In) (t:List UInt8) (k p:Nat):List Int:=
 match code[k]? with
 | none=>[]
 | some v=>if v.op=1 then [] else (succS code t k p).map (·.1)
structure PkA (code:List In) (t:List UInt8) (p:Nat) (Q:Int->Prop) (S:Int->Bool) (W:List Nat) (T:List Int):Prop where
 sT:∀x∈T,Q x
 sS:∀x,S x=true->Q x/\InR code x
 sW:∀k∈W,S k=true/\∃h:k<code.length,code[k].op=1\/code[k].op=7
 cls:∀(k:Nat) (h:k<code.length),S k=true->(code[k].op=1\/code[k].op=7->k∈W)/\∀x∈succE code t k p,InR code x->S x=true\/x∈T
theorem PkA.none (code:List In) (t:List UInt8) (p:Nat) (Q:Int->Prop):PkA code t p Q (λ_=>false) [] []:=
 ⟨λx h=>(by cases h),λx h=>(by cases h),λk h=>(by cases h),λk _ h=>(by cases h)⟩
theorem PkA.first {code:List In} {t:List UInt8} {p:Nat} {Q:Int->Prop} {S:Int->Bool} {W:List Nat} (h:PkA code t p Q S W []) (x:Int) (hx:Q x):PkA code t p Q S W [x]:=
 ⟨λy hy=>by rw[List.mem_singleton] at hy;subst hy;exact hx,h.sS,h.sW,λk hk hs=>⟨(h.cls k hk hs).1,λy hy hi=> .inl (by rcases (h.cls k hk hs).2 y hy hi with h1|h1;exact h1;cases h1)⟩⟩
theorem PkA.skip {code:List In} {t:List UInt8} {p:Nat} {Q:Int->Prop} {S:Int->Bool} {W:List Nat} {T:List Int} {x:Int} (h:PkA code t p Q S W (T++[x])) (hx:InR code x->S x=true):PkA code t p Q S W T:=by
 refine ⟨λy hy=>h.sT y (List.mem_append_left _ hy),h.sS,h.sW,λk hk hs=>⟨(h.cls k hk hs).1,λy hy hi=>?_⟩⟩;rcases (h.cls k hk hs).2 y hy hi with h1|h1
 ·exact .inl h1
 ·rcases List.mem_append.1 h1 with h2|h2
  ·exact .inr h2
  ·rw[List.mem_singleton] at h2;subst h2;exact .inl (hx hi)
theorem PkA.visit {code:List In} {t:List UInt8} {p:Nat} {Q:Int->Prop} {S:Int->Bool} {W:List Nat} {T:List Int} {k:Nat} (h:PkA code t p Q S W (T++[(k:Int)])) (hk:k<code.length)
  (hQ:∀x,Q (k:Int)->x∈succE code t k p->Q x):PkA code t p Q (λa=>a==(k:Int)||S a) (if code[k].op=1\/code[k].op=7 then W++[k] else W) (T++succE code t k p):=by
 have hx:Q (k:Int):=h.sT _ (List.mem_append_right _ (List.mem_singleton.2 rfl));have hSk:∀y,S y=true->(y==(k:Int)||S y)=true:=λy hy=>by rw[hy,Bool.or_true]
 have hW:∀j,j∈W->j∈(if code[k].op=1\/code[k].op=7 then W++[k] else W):=λj hj=>by split<;>simp[hj]
 refine ⟨λy hy=>?_,λy hy=>?_,λj hj=>?_,λj hj hs=>?_⟩
 ·rcases List.mem_append.1 hy with h1|h1
  ·exact h.sT y (List.mem_append_left _ h1)
  ·exact hQ y hx h1
 ·rw[Bool.or_eq_true] at hy;rcases hy with h1|h1
  ·have:y=k:=by simpa using h1
   subst this;exact ⟨hx,⟨by omega,by omega⟩⟩
  ·exact h.sS y h1
 ·have hj':j∈W\/(j=k/\(code[k].op=1\/code[k].op=7)):=by
   split at hj
   ·rename_i ho;rcases List.mem_append.1 hj with h1|h1
    ·exact .inl h1
    ·exact .inr ⟨List.mem_singleton.1 h1,ho⟩
   ·exact .inl hj
  rcases hj' with h1|⟨rfl,ho⟩
  ·exact ⟨hSk _ (h.sW j h1).1,(h.sW j h1).2⟩
  ·exact ⟨by simp,hk,ho⟩
 ·by_cases e:j=k
  ·subst e;refine ⟨λho=>by rw[if_pos ho];simp,λy hy _=> .inr (List.mem_append_right _ hy)⟩
  ·have e2:((j:Int)==(k:Int))=false:=beq_eq_false_iff_ne.2 (by omega);rw[e2,Bool.false_or] at hs;obtain ⟨h1,h2⟩:=h.cls j hj hs;refine ⟨λho=>hW j (h1 ho),λy hy hi=>?_⟩;rcases h2 y hy hi with h3|h3
   ·exact .inl (hSk y h3)
   ·rcases List.mem_append.1 h3 with h4|h4
    ·exact .inr (List.mem_append_left _ h4)
    ·rw[List.mem_singleton] at h4;subst h4;exact .inl (by simp)
theorem succE_at {code:List In} {t:List UInt8} {k:Nat} (h:k<code.length) (p:Nat) (h1:code[k].op≠1):succE code t k p=(succS code t k p).map (·.1):=by
 unfold succE;rw[List.getElem?_eq_getElem h];simp only;rw[if_neg h1]
theorem succE_set {code:List In} {t:List UInt8} {k:Nat} (h:k<code.length) (p:Nat) (h1:code[k].op=1):succE code t k p=[]:=by
 unfold succE;rw[List.getElem?_eq_getElem h];simp only;rw[if_pos h1]
theorem succS_stay {code:List In} {t:List UInt8} {k:Nat} (h:k<code.length) (p:Nat) (h1:code[k].op≠1):∀q∈succS code t k p,q.2=p:=by
 intro q hq;rw[succS_at h,if_neg h1] at hq;split at hq
 ·simp only[List.mem_cons,List.not_mem_nil,or_false] at hq;rcases hq with rfl|rfl<;>rfl
 ·split at hq
  ·rw[List.mem_singleton] at hq;subst hq;rfl
  ·split at hq
   ·rw[List.mem_singleton] at hq;subst hq;rfl
   ·split at hq
    ·split at hq
     ·rw[List.mem_singleton] at hq;subst hq;rfl
     ·cases hq
    ·split at hq
     ·split at hq
      ·rw[List.mem_singleton] at hq;subst hq;rfl
      ·cases hq
     ·cases hq
theorem Rc.goes {code:List In} {t:List UInt8} {St:Nat->Prop} {k p:Nat} (h:Rc code t St k p) (x:Int) (hx:x∈succE code t k p):Rc code t St x p:=by
 by_cases hk:k<code.length
 ·by_cases h1:code[k].op=1
  ·rw[succE_set hk p h1] at hx;cases hx
  ·rw[succE_at hk p h1] at hx;obtain ⟨q,hq,rfl⟩:=List.mem_map.1 hx;have:=Rc.step _ _ q h hq;rw[succS_stay hk p h1 q hq] at this;exact this
 ·unfold succE at hx;rw[List.getElem?_eq_none (by omega)] at hx;cases hx
theorem PkA.all {code:List In} {t:List UInt8} {p:Nat} {Q:Int->Prop} {S:Int->Bool} {W:List Nat} (h:PkA code t p Q S W []) (h0:InR code 0->S 0=true)
  (hb:∀(k:Nat) (hk:k<code.length) (p':Nat),p=p'+1->Rc code t (λi=>i<=t.length) k p'->code[k].op=1->∀q∈succS code t k p',InR code q.1->S q.1=true) {x:Int} {p0:Nat}
  (hr:Rc code t (λi=>i<=t.length) x p0):p0=p->InR code x->S x=true:=by
 induction hr with
 | start p1 _ _=>intro _ hi;exact h0 hi
 | step pc p1 q hr hq ih=>
  intro hp hi;by_cases hpc:InR code pc
  ·obtain ⟨k,rfl⟩:∃k:Nat,pc=k:=⟨pc.toNat,by have:=hpc.1;omega⟩
   have hk:k<code.length:=by have:=hpc.2;omega
   by_cases h1:code[k].op=1
   ·have hp1:q.2=p1+1:=by
     rw[succS_at hk,if_pos h1] at hq;split at hq
     ·split at hq
      ·rw[List.mem_singleton] at hq;subst hq;rfl
      ·cases hq
     ·cases hq
    exact hb k hk p1 (by omega) hr h1 q hq hi
   ·have hst:=succS_stay hk p1 h1 q hq;have hs:=ih (by omega) hpc;have hp1:p1=p:=by omega
    subst hp1;rcases (h.cls k hk hs).2 q.1 (by rw[succE_at hk _ h1];exact List.mem_map.2 ⟨q,hq,rfl⟩) hi with h2|h2
    ·exact h2
    ·cases h2
  ·rw[succS_out hpc] at hq;cases hq
section
open Go.RowKit Go.Maps
theorem key_int:Keyed Tryz.prog 3:=int_keyed Tryz.underlying3
theorem zero_bool (w:World):(zeroValue 4).run Tryz.prog w= .ok (.bool false) w:=by kernel_rfl
def MpB (w:World) (B n:Nat) (S:Int->Bool):Prop:=
 ∃D:DataW Unit,w.ownsMap Tryz.prog 3 (plainElem Tryz.prog 4) B n D/\IsMap D/\∀a:Int,D.atKey (.int .i64 a) (.lit (.bool false))= .lit (.bool (S a))
theorem MpB.lt {w:World} {B n:Nat} {S:Int->Bool} (h:MpB w B n S):B<w.heap.size:=by
 obtain ⟨D,h,_⟩:=h;exact h.lt
theorem MpB.made (w:World):MpB (w.alloc (.map #[] 0)) w.heap.size 0 (λ_=>false):=
 ⟨.map [],World.ownsMap_made w _ _ _,isMap_empty,λa=>rfl⟩
theorem MpB.kept {w w':World} {B n:Nat} {S:Int->Bool} {row:Option Nat} (h:MpB w B n S) (hg:w.grownBy w' row) (hne:some B≠row):MpB w' B n S:=by
 obtain ⟨D,h1,h2,h3⟩:=h;exact ⟨D,h1.kept hg hne,h2,h3⟩
theorem MpB.gr {w w':World} {B n:Nat} {S:Int->Bool} (h:MpB w B n S) (g:Gr w w'):MpB w' B n S:=
 h.kept (row:=none) ⟨g.os,g.tape,g.output,g.size,λk hk _=>Below.block g k hk⟩ (by simp)
theorem MpB.set {w:World} {B n:Nat} {S:Int->Bool} (h:MpB w B n S) {p:Addr} (hp:p.block≠B) (u:Value):MpB (w.setCell p u) B n S:=by
 obtain ⟨D,⟨es,clock,hb,F,hs,hD⟩,h2,h3⟩:=h;exact ⟨D,⟨es,clock,(Below.heap_setCell w p u B (λe=>hp e.symm)).trans hb,F,hs,hD⟩,h2,h3⟩
theorem MpB.look {w:World} {B n:Nat} {S:Int->Bool} (h:MpB w B n S) (a:Int) (hw:(Lit.int .i64 a).wf=true):(Instr.lookup 120 (.map (some B)) (.int .i64 a) false).run Tryz.prog w= .ok (.bool (S a)) w:=by
 obtain ⟨D,h1,h2,h3⟩:=h;obtain ⟨v,ps,hrun,hv⟩:=h1.lookup key_int Tryz.underlying120 (zero_bool w) (plainElem_bool Tryz.underlying4 false) (keyOf_int_mk Tryz.underlying3 hw);rw[h3 a] at hv;rw[hrun];have:v= .bool (S a):=by
  unfold plainElem at hv;rw[Tryz.underlying4] at hv;cases v<;>simp at hv
  rename_i x;rw[hv.1]
 rw[this]
theorem MpB.put {w':World} {x:Int} {B n:Nat} {S:Int->Bool} {D:DataW Unit} (h:w'.ownsMap Tryz.prog 3 (plainElem Tryz.prog 4) B (n+1) (D.put (.int .i64 x) (.lit (.bool true)))) (hm:IsMap D) (hD:∀a:Int,D.atKey (.int .i64 a) (.lit (.bool false))= .lit (.bool (S a))):MpB w' B (n+1) (λa=>a==x||S a):=
 ⟨_,h,hm.put _ _,λa=>by
  by_cases e:a=x
  ·subst e;rw[atKey_put_same (k:= .int .i64 a) hm (show WideAt.IsKeyLit (.int .i64 a) from trivial)];simp
  ·rw[atKey_put_other (by intro e2;injection e2 with _ e3;exact e e3),hD a];have:(a==x)=false:=beq_eq_false_iff_ne.2 e;simp only[this,Bool.false_or]⟩
end
def Plc (w:World) (s:Value) (a m:Nat):Prop:=∃c,s= .slice (some ⟨a,0,none⟩) m c/\0<m/\m<=3000/\a<w.heap.size/\∀j,j<m->∃z:Int,w.cell? ⟨a,j,none⟩=some (.int .i64 z)
theorem Plc.gr {w w':World} {s:Value} {a m:Nat} (h:Plc w s a m) (g:Gr w w'):Plc w' s a m:=by
 obtain ⟨c,e,h0,hm,ha,hc⟩:=h;exact ⟨c,e,h0,hm,Nat.lt_of_lt_of_le ha g.size,λj hj=>by
  obtain ⟨z,hz⟩:=hc j hj;exact ⟨z,(bc g ha hz)⟩⟩
theorem Plc.ints {w:World} {s:Value} {a m:Nat} (h:Plc w s a m):∃zs:List Int,zs.length=m/\∀j,j<zs.length->w.cell? ⟨a,0+j,none⟩=some (.int .i64 (zs.getD j 0)):=by
 obtain ⟨c,e,h0,hm,ha,hc⟩:=h
 let f:Nat->Int:=λj=>if hj:j<m then (hc j hj).choose else 0
 refine ⟨(List.range m).map f,by simp,λj hj=>?_⟩;have hj':j<m:=by simpa using hj
 have e1:((List.range m).map f).getD j 0=(hc j hj').choose:=by
  rw[List.getD_eq_getElem?_getD,List.getElem?_map,List.getElem?_range hj'];simp[f,hj']
 rw[e1,Nat.zero_add];exact (hc j hj').choose_spec
def RetWi (s:Value) (a m:Nat) (w:World) (e:Ending) (w':World):Prop:=∃s' a',e= .returned (.agg #[s'])/\Plc w' s' a' m/\Gr w w'/\(a'=a\/w.heap.size<=a')
theorem pwith_any (s:Value) (a m:Nat) (at' place:Int) (w:World) (h:Plc w s a m):Calls Tryz.prog 89 #[.agg #[s], .int .i64 at', .int .i64 place] w (RetWi s a m w):=by
 obtain ⟨zs,hzl,hzc⟩:=h.ints;have HP:=Lib.hid h;obtain ⟨c,rfl,h0,hm,ha, -⟩:=h;have hmi:(m:Int)<=3000:=by omega
 obtain ⟨V,hV⟩:∃V,V=(w.alloc (.cells #[.slice (some ⟨a,0,none⟩) m c] 126)).alloc (.cells #[.slice none 0 0] 126):=⟨_,rfl⟩
 have gV:Gr w V:=by rw[hV];exact Gr.alloc (Gr.alloc (Gr.refl w) _) _
 have hz0:w.heap.size<V.heap.size:=by rw[hV];simp;omega
 have hz1:w.heap.size+1<V.heap.size:=by rw[hV];simp
 have c0:V.cell? ⟨w.heap.size,0,none⟩=some (.slice (some ⟨a,0,none⟩) m c):=by rw[hV];go_simp
 have c1:V.cell? ⟨w.heap.size+1,0,none⟩=some (.slice none 0 0):=by rw[hV];go_simp
 have f1:V.frozen? ⟨w.heap.size+1,0,none⟩=false:=by rw[hV];go_simp
 have HV:=Lib.hid hV;have GV:=Lib.hid gV;have HC:=Lib.hid (Tryz.slices_Clone_int a 0 m c zs V (by omega) (by omega) (λj hj=>(bc gV ha (hzc j hj))));have HZ:=Lib.hid (And.intro hzl ha);clear hV gV hzl hzc ha;by_cases hin:0<=at'/\at'<(m:Int)
 ·obtain ⟨k,rfl⟩:∃k:Nat,at'=k:=⟨at'.toNat,by omega⟩
  have hki:(k:Int)<(m:Int):=hin.2;have hkm:k<m:=by omega
  clear hin;go_enter Tryz.func89,Tryz.ntmps89;go_upto_region 1 with (fail)
  rw[<-HV.out];clear HV;go_upto_region 4 with (go_at_call 57;refine HC.out.mono ?_;rintro e w2 ⟨v2,rfl,hown, -,g2⟩)
  obtain ⟨A2,c2,hv2⟩:=own_form hown;subst hv2;obtain ⟨b,rfl,hb,hbz,hcells⟩:=own_blockU hown h0;have hlk:k<((zs.take m).map (Value.int .i64)).length:=by rw[List.length_map,List.length_take,HZ.out.1];omega
  have cK:=hcells k _ (List.getElem?_eq_getElem hlk);have fK:=hown.frozenAt k;have c1b:=bc g2 hz1 c1;have f1b:=bf g2 hz1 f1;have hbV:w.heap.size+1<b:=Nat.lt_of_lt_of_le hz1 hb;have HCE:=Lib.hid hcells;have G2:=Lib.hid g2;generalize ((zs.take m).map (Value.int .i64))[k]=u0 at cK;clear hown hcells hlk c0 c1 f1 g2 HC;go_wp2;refine bodyPost_ret (v:= .agg #[.slice (some ⟨b,0,none⟩) m c2]) (by simp[results,Tryz.results89,go_sem, *]) rfl ?_;refine ⟨_,b,rfl,⟨c2,rfl,h0,hm,by simpa using hbz,λj hj=>?_⟩,?_, .inr (by omega)⟩
  ·have hjl:j<((zs.take m).map (Value.int .i64)).length:=by rw[List.length_map,List.length_take,HZ.out.1];omega
   rw[World.cell?_setCell_other _ ⟨w.heap.size+1,0,none⟩ ⟨b,j,none⟩ _ (by first|(simp;done)|(simp;omega))];by_cases e:j=k
   ·subst e;exact ⟨place,World.cell?_setCell_same' _ _ _ (by rw[cK];rfl)⟩
   ·rw[World.cell?_setCell_other _ ⟨b,k,none⟩ ⟨b,j,none⟩ _ (by first|(simp;done)|(simp;omega))];exact ⟨zs[j]'(by rw[HZ.out.1];exact hj),HCE.out j _ (by simp[HZ.out.1,hj])⟩
  ·exact ((GV.out.trans G2.out).setCell (by show w.heap.size<=b;omega) _).setCell (by show w.heap.size<=w.heap.size+1;omega) _
 ·have GO:∀W,Gr V W->RetWi (.slice (some ⟨a,0,none⟩) m c) a m w (.returned (.agg #[.slice (some ⟨a,0,none⟩) m c])) (W.setCell ⟨w.heap.size+1,0,none⟩ (.slice (some ⟨a,0,none⟩) m c)):=λW g=>by
   have g2:=(GV.out.trans g).setCell (p:=⟨w.heap.size+1,0,none⟩) (Nat.le_succ _) (.slice (some ⟨a,0,none⟩) m c);exact ⟨_,a,rfl,HP.out.gr g2,g2, .inl rfl⟩
  have HGO:=Lib.hid GO;clear GO;by_cases hneg:at'<0
  ·clear hin;go_enter Tryz.func89,Tryz.ntmps89;go_upto_region 1 with (fail)
   rw[<-HV.out];clear HV;go_wp2;refine bodyPost_ret (v:= .agg #[.slice (some ⟨a,0,none⟩) m c]) (by simp[results,Tryz.results89,go_sem, *]) rfl ?_;exact HGO.out V (Gr.refl V)
  ·have hge:(m:Int)<=at':=by omega
   clear hin;go_enter Tryz.func89,Tryz.ntmps89;go_upto_region 1 with (fail)
   rw[<-HV.out];clear HV;go_wp2;refine bodyPost_ret (v:= .agg #[.slice (some ⟨a,0,none⟩) m c]) (by simp[results,Tryz.results89,go_sem, *]) rfl ?_;exact HGO.out V (Gr.refl V)
structure FrX (ex:Nat->Prop) (w w':World):Prop where
 os:w'.os=w.os
 tape:w'.tape=w.tape
 output:w'.output=w.output
 size:w.heap.size<=w'.heap.size
 block:∀k,k<w.heap.size->¬ex k->w'.heap[k]?=w.heap[k]?
theorem FrX.refl (ex:Nat->Prop) (w:World):FrX ex w w:=⟨rfl,rfl,rfl,Nat.le_refl _,λ_ _ _=>rfl⟩
theorem FrX.gr {ex:Nat->Prop} {w w':World} (g:Gr w w'):FrX ex w w':=⟨g.os,g.tape,g.output,g.size,λk hk _=>Below.block g k hk⟩
theorem FrX.trans {ex:Nat->Prop} {w w1 w2:World} (h:FrX ex w w1) (k:FrX ex w1 w2):FrX ex w w2:=
 ⟨k.os.trans h.os,k.tape.trans h.tape,k.output.trans h.output,Nat.le_trans h.size k.size,λx hx hn=>(k.block x (Nat.lt_of_lt_of_le hx h.size) hn).trans (h.block x hx hn)⟩
theorem FrX.cell {ex:Nat->Prop} {w w':World} (h:FrX ex w w') {p:Addr} (hp:p.block<w.heap.size) (hn:¬ex p.block):w'.cell? p=w.cell? p:=World.cell?_of_block (h.block p.block hp hn)
theorem FrX.frozen {ex:Nat->Prop} {w w':World} (h:FrX ex w w') {p:Addr} (hp:p.block<w.heap.size) (hn:¬ex p.block):w'.frozen? p=w.frozen? p:=World.frozen?_of_block (h.block p.block hp hn)
theorem FrX.below {ex:Nat->Prop} {w0 w w':World} (h:FrX ex w w') (g:Gr w0 w) (hex:∀k,ex k->w0.heap.size<=k):Gr w0 w':=
 ⟨h.os.trans g.os,h.tape.trans g.tape,h.output.trans g.output,Nat.le_trans g.size h.size,λk hk=>(h.block k (Nat.lt_of_lt_of_le hk g.size) (λe=>by have:=hex k e;omega)).trans (Below.block g k hk)⟩
structure Pw where
 sv:Value
 pc:Int
def pwc (l:List Pw):List Value:=l.flatMap λx=>[x.sv, .int .i64 x.pc]
theorem pwc_cons (x:Pw) (l:List Pw):pwc (x::l)=x.sv :: .int .i64 x.pc::pwc l:=rfl
theorem pwc_append (l m:List Pw):pwc (l++m)=pwc l++pwc m:=by simp[pwc]
theorem pwc_length (l:List Pw):(pwc l).length=l.length*2:=by
 induction l with
 | nil=>rfl
 | cons v l ih=>rw[pwc_cons];simp only[List.length_cons,ih];omega
def PlX (ex:Nat->Prop) (w:World) (s:Value):Prop:=∃a m,Plc w s a m/\¬ex a
theorem PlX.fr {ex ex':Nat->Prop} {w w':World} {s:Value} (h:PlX ex w s) (f:FrX ex' w w') (hex:∀k,ex' k->ex k):PlX ex w' s:=by
 obtain ⟨a,m,⟨c,e,h0,hm,ha,hc⟩,hn⟩:=h;exact ⟨a,m,⟨c,e,h0,hm,Nat.lt_of_lt_of_le ha f.size,λj hj=>by
  obtain ⟨z,hz⟩:=hc j hj;exact ⟨z,(f.cell (p:=⟨a,j,none⟩) ha (λe=>hn (hex a e))).trans hz⟩⟩,hn⟩
structure LsM (b0 hl B nB:Nat) (w:World) (v:Value) (W:List Pw) (S:Int->Bool):Prop where
 c0:w.cell? ⟨hl,0,none⟩=some v
 f0:w.frozen? ⟨hl,0,none⟩=false
 c1:w.cell? ⟨hl,1,none⟩=some (.map (some B))
 hz:hl<w.heap.size
 ne:hl≠B
 mp:MpB w B nB S
 own:w.ownsRow b0 128 2 v W.length (pwc W)
 nv:v.ownBlock≠some hl/\v.ownBlock≠some B
 pl:∀x∈W,PlX (λk=>k=hl\/k=B\/some k=v.ownBlock) w x.sv
 wl:W.length<=nB
theorem LsM.gr {b0 hl B nB:Nat} {w w':World} {v:Value} {W:List Pw} {S:Int->Bool} (h:LsM b0 hl B nB w v W S) (g:Gr w w'):LsM b0 hl B nB w' v W S:=
 ⟨(bc g h.hz h.c0),(bf g h.hz h.f0),(bc g h.hz h.c1),Nat.lt_of_lt_of_le h.hz g.size,h.ne,h.mp.gr g,own_grU h.own g,h.nv,λx hx=>(h.pl x hx).fr (FrX.gr (ex:=λ_=>False) g) (λ_ e=>e.elim),h.wl⟩
section
open Go.RowKit Go.Maps
theorem info_pway:(Tryz.prog.info? 128).map (λi=>(i.zero,i.size,i.bytes))=some (some (.agg #[.slice none 0 0, .int .i64 0]),2,32):=by kernel_rfl
def exA (hl B:Nat) (v:Value):Nat->Prop:=λk=>k=hl\/k=B\/some k=v.ownBlock
structure AdR (b0 hl B n:Nat) (code:List In) (t:List UInt8) (p:Nat) (Q:Int->Prop) (w0:World) (v0:Value) (S0:Int->Bool) (first:Int) (wr:World) (v8:Value) (T:List Pw) (v:Value) (W:List Pw) (Wn:List Nat) (S:Int->Bool) (nB:Nat):Prop where
 ls:LsM b0 hl B nB wr v W S
 own:wr.ownsRow w0.heap.size 128 2 v8 T.length (pwc T)
 nv:v8.ownBlock≠v.ownBlock\/v8.ownBlock=none
 pT:∀x∈T,PlX (λk=>k=hl\/k=B\/some k=v.ownBlock\/some k=v8.ownBlock) wr x.sv
 pW:∀x∈W,PlX (λk=>some k=v8.ownBlock) wr x.sv
 wn:W.map (·.pc)=Wn.map (λk:Nat=>(k:Int))
 law:PkA code t p Q S Wn (T.map (·.pc))
 ini:InR code first->S first=true\/first∈T.map (·.pc)
 mono:∀x,S0 x=true->S x=true
 fr:FrX (exA hl B v0) w0 wr
 vn:v.ownBlock=v0.ownBlock\/∃k,v.ownBlock=some k/\w0.heap.size<=k
theorem PlX.new {ex ex':Nat->Prop} {w w':World} {s:Value} (h:PlX ex w s) (g:Gr w w') (hx:∀k,k<w.heap.size->ex' k->ex k):PlX ex' w' s:=by
 obtain ⟨a,m,hp,hn⟩:=h;obtain ⟨c,e,h0,hm,ha,hc⟩:=id hp;exact ⟨a,m,hp.gr g,λe=>hn (hx a ha e)⟩
theorem ad_start {b0 hl B nB n:Nat} {code:List In} {t:List UInt8} {p:Nat} {Q:Int->Prop} {sv:Value} {pc:Int} {w w1:World} {v:Value} {W:List Pw} {Wn:List Nat} {S:Int->Bool}
  (hw1:w1=(w.alloc (.cells #[sv, .int .i64 pc] 128)).alloc (.cells #[sv, .int .i64 pc] 128)) (hL:LsM b0 hl B nB w v W S) (hb0:b0<=w.heap.size) (hPl:PlX (exA hl B v) w sv) (hW:W.map (·.pc)=Wn.map (λk:Nat=>(k:Int))) (law:PkA code t p Q S Wn []) (hQ0:Q pc) :
  AdR b0 hl B n code t p Q w v S pc w1 (.slice (some ⟨w.heap.size+1,0,none⟩) 1 1) [⟨sv,pc⟩] v W Wn S nB:=by
 have g:Gr w w1:=by rw[hw1];exact Gr.alloc (Gr.alloc (Gr.refl w) _) _
 have hvl:∀k,v.ownBlock=some k->k<w.heap.size:=λk hk=>(hL.own.lt k hk).2;have hob:(Value.slice (some ⟨w.heap.size+1,0,none⟩) 1 1).ownBlock=some (w.heap.size+1):=rfl;refine ⟨hL.gr g,?_, .inl (λe=>?_),λx hx=>?_,λx hx=>?_,hW,law.first pc hQ0,λ_=> .inr (List.mem_singleton.2 rfl),λ_ h=>h,FrX.gr g, .inl rfl⟩
 ·have:=World.ownsRow_lit (base:=w.heap.size) (e:=128) (size:=2) (w.alloc (.cells #[sv, .int .i64 pc] 128)) #[sv, .int .i64 pc] 1 (by simp) (by decide) rfl;rw[hw1];simpa [pwc] using this
 ·rw[hob] at e;have:=hvl _ e.symm;omega
 ·rw[List.mem_singleton] at hx;subst hx;refine hPl.new g λk hk e=>?_;rcases e with e|e|e|e
  ·exact .inl e
  ·exact .inr (.inl e)
  ·exact .inr (.inr e)
  ·rw[hob] at e;injection e with e;omega
 ·refine (hL.pl x hx).new g λk hk e=>?_;rw[hob] at e;injection e with e;omega
noncomputable def lookB (w:World) (B:Nat) (j:Nat):Bool:=match (Instr.lookup 120 (.map (some B)) (.int .i64 (j:Nat)) false).run Tryz.prog w with| .ok (.bool b) _=>b|_=>false
theorem wf_small (j:Nat) (hj:j<=1000000):(Lit.int .i64 (j:Nat)).wf=true:=by
 simp[Lit.wf,IntKind.min,IntKind.max,IntKind.signed,IntKind.bits];omega
theorem MpB.lookB {w:World} {B n:Nat} {S:Int->Bool} (h:MpB w B n S) (j:Nat) (hj:j<=1000000):lookB w B j=S j:=by
 unfold Go.Proofs.YtjapddfnpmlifaaGreatDoor.lookB;rw[h.look j (wf_small j hj)]
def unseenP (S:Int->Bool) (n:Nat):Nat:=((List.range n).filter λj:Nat=> !S j).length
noncomputable def unseenPW (B n:Nat) (w:World):Nat:=((List.range n).filter λj:Nat=> !lookB w B j).length
theorem MpB.unseen {w:World} {B n k:Nat} {S:Int->Bool} (h:MpB w B k S) (hn:n<=2000):unseenPW B n w=unseenP S n:=by
 unfold unseenPW unseenP
 congr 1
 apply List.filter_congr;intro j hj;rw[h.lookB j (by have:=List.mem_range.1 hj;omega)]
def lenP:Value->Nat
 | .slice _ n _=>n
 | _=>0
theorem unseenP_first (S:Int->Bool) (n:Nat):1+2*unseenP S n<=2*n+1:=by
 have:unseenP S n<=n:=Nat.le_trans (List.length_filter_le _ _) (by simp);omega
def RetAd (b0 hl B nB n:Nat) (code:List In) (t:List UInt8) (p:Nat) (Q:Int->Prop) (w:World) (v:Value) (S:Int->Bool) (pc:Int) (e:Ending) (w':World):Prop:=
 e= .returned (.tuple #[])/\∃(v':Value) (W':List Pw) (Wn':List Nat) (S':Int->Bool) (nB':Nat),LsM b0 hl B nB' w' v' W' S'/\W'.map (·.pc)=Wn'.map (λk:Nat=>(k:Int))/\PkA code t p Q S' Wn' []/\(InR code pc->S' pc=true)/\(∀x,S x=true->S' x=true)/\FrX (exA hl B v) w w'/\
  (v'.ownBlock=v.ownBlock\/∃k,v'.ownBlock=some k/\w.heap.size<=k)/\nB'+unseenP S' n=nB+unseenP S n
theorem AdR.ret {b0 hl B n:Nat} {code:List In} {t:List UInt8} {p:Nat} {Q:Int->Prop} {w:World} {v:Value} {S:Int->Bool} {pc:Int} {wr:World} {v8 v':Value} {W':List Pw} {Wn':List Nat} {S':Int->Bool} {nB nB':Nat} (I:AdR b0 hl B n code t p Q w v S pc wr v8 [] v' W' Wn' S' nB') (h:nB'+unseenP S' n=nB+unseenP S n):RetAd b0 hl B nB n code t p Q w v S pc (.returned (.tuple #[])) wr:=
 ⟨rfl,v',W',Wn',S',nB',I.ls,I.wn,I.law,λhi=>(by rcases I.ini hi with h1|h1;exact h1;cases h1),I.mono,I.fr,I.vn,h⟩
theorem own_pop' {w:World} {base:Nat} {e:TypeId} {size n c g:Nat} {xs ys:List Value} (h:w.ownsRow base e size (.slice (some ⟨g,0,none⟩) (n+1) c) (n+1) (xs++ys)) (hx:xs.length=n*size):w.ownsRow base e size (.slice (some ⟨g,0,none⟩) n c) n xs:=by
 obtain ⟨h1,⟨hv,h0⟩|⟨g',cap,cur,hv,hb,hh,h2,h3,h4,h5⟩⟩:=h
 ·cases h0
 ·injection hv with hv1 hv2 hv3;subst hv3;refine ⟨hx, .inr ⟨g',c,cur,by rw[hv1],hb,hh,by omega,h3,h4,?_⟩⟩;have:cur.toList.take (n*size)=(cur.toList.take ((n+1)*size)).take (n*size):=by rw[List.take_take,Nat.min_eq_left (Nat.mul_le_mul_right _ (Nat.le_succ n))]
  rw[this,h5,List.take_left' hx]
theorem own_cap' {w:World} {base:Nat} {e:TypeId} {size n c g:Nat} {xs:List Value} (h:w.ownsRow base e size (.slice (some ⟨g,0,none⟩) n c) n xs):n<=c/\c<=maxLen:=by
 obtain ⟨h1,⟨hv,h0⟩|⟨g',cap,cur,hv,hb,hh,h2,h3,h4,h5⟩⟩:=h
 ·cases hv
 ·injection hv with _ _ hv3;subst hv3;exact ⟨h2,h3⟩
theorem top_pcells {w:World} {g:Nat} {T0:List Pw} {x:Pw} (h:∀j u,(pwc (T0++[x]))[j]?=some u->w.cell? ⟨g,j,none⟩=some u):w.cell? ⟨g,T0.length*2,none⟩=some x.sv/\w.cell? ⟨g,T0.length*2+1,none⟩=some (.int .i64 x.pc):=by
 have hl:=pwc_length T0;have k:∀j,(pwc (T0++[x]))[T0.length*2+j]?=(pwc [x])[j]?:=λj=>by
  rw[pwc_append,List.getElem?_append_right (by omega)]
  congr 1
  omega
 exact ⟨h _ _ (k 0),h _ _ (k 1)⟩
theorem skip_len {T u n:Nat} (h:T+1+2*u<=2*n+1):T+2*u<=2*n+1:=by omega
theorem nb_small {nB nB' n:Nat} {S S':Int->Bool} (h0:nB<=n) (hn:n<=2000) (h:nB'+unseenP S' n=nB+unseenP S n):nB'<maxLen:=by
 have:unseenP S n<=n:=Nat.le_trans (List.length_filter_le _ _) (by simp);unfold maxLen;omega
theorem tlP_le {T u n:Nat} (h:T+1+2*u<=2*n+1) (hn:n<=2000):T<=4000:=by omega
theorem AdR.skip {b0 hl B n:Nat} {code:List In} {t:List UInt8} {p:Nat} {Q:Int->Prop} {w:World} {v:Value} {S:Int->Bool} {pc:Int} {wr wx:World} {g cv:Nat} {T0:List Pw} {x:Pw} {v':Value} {W':List Pw} {Wn':List Nat} {S':Int->Bool} {nB':Nat}
  (I:AdR b0 hl B n code t p Q w v S pc wr (.slice (some ⟨g,0,none⟩) (T0.length+1) cv) (T0++[x]) v' W' Wn' S' nB') (gx:Gr wr wx) (hx:InR code x.pc->S' x.pc=true):AdR b0 hl B n code t p Q w v S pc wx (.slice (some ⟨g,0,none⟩) T0.length cv) T0 v' W' Wn' S' nB':=by
 have hown:=I.own;rw[List.length_append,List.length_singleton,pwc_append] at hown;have hlaw:=I.law;rw[List.map_append] at hlaw;refine ⟨I.ls.gr gx,own_grU (own_pop' hown (pwc_length T0)) gx,I.nv,λy hy=>(I.pT y (List.mem_append_left _ hy)).new gx (λ_ _ e=>e),λy hy=>(I.pW y hy).new gx (λ_ _ e=>e),I.wn,hlaw.skip hx,λhi=>?_,I.mono,I.fr.trans (FrX.gr gx),I.vn⟩;rcases I.ini hi with h1|h1
 ·exact .inl h1
 ·rw[List.map_append] at h1;rcases List.mem_append.1 h1 with h2|h2
  ·exact .inr h2
  ·simp only[List.map_cons,List.map_nil,List.mem_singleton] at h2;exact .inl (by rw[h2];exact hx (h2▸hi))
end
structure Wy where
 pc:Int
 at':Nat
 sv:Value
def Wy.st (x:Wy):Int×Nat:=(x.pc,x.at')
def wyc (l:List Wy):List Value:=l.flatMap λx=>[.int .i64 x.pc, .int .i64 (x.at':Nat),x.sv]
theorem wyc_cons (x:Wy) (l:List Wy):wyc (x::l)= .int .i64 x.pc :: .int .i64 (x.at':Nat)::x.sv::wyc l:=rfl
theorem wyc_append (l m:List Wy):wyc (l++m)=wyc l++wyc m:=by simp[wyc]
theorem wyc_length (l:List Wy):(wyc l).length=l.length*3:=by
 induction l with
 | nil=>rfl
 | cons v l ih=>rw[wyc_cons];simp only[List.length_cons,ih];omega
theorem idx_inj {L k p k' p':Nat} (hp:p<=L) (hp':p'<=L) (h:k*(L+1)+p=k'*(L+1)+p'):k=k'/\p=p':=by
 have h1:(k*(L+1)+p)/(L+1)=k:=by
  rw[Nat.add_comm,Nat.add_mul_div_right _ _ (Nat.succ_pos L),Nat.div_eq_of_lt (by omega)];omega
 have h2:(k'*(L+1)+p')/(L+1)=k':=by
  rw[Nat.add_comm,Nat.add_mul_div_right _ _ (Nat.succ_pos L),Nat.div_eq_of_lt (by omega)];omega
 have:k=k':=by rw[<-h1,h,h2]
 subst this;exact ⟨rfl,by omega⟩
theorem idx_lt {L k p n:Nat} (hp:p<=L) (hk:k<n):k*(L+1)+p<n*(L+1):=by
 have h1:k*(L+1)+p<(k+1)*(L+1):=by rw[Nat.add_mul];omega
 exact Nat.lt_of_lt_of_le h1 (Nat.mul_le_mul_right _ hk)
structure PrL (code:List In) (t:List UInt8) (i:Nat) (σ:Nat->Bool) (T:List (Int×Nat)):Prop where
 snd:∀x∈T,Rc code t (· = i) x.1 x.2
 cls:∀(k p:Nat) (h:k<code.length),p<=t.length->σ (k*(t.length+1)+p)=true->code[k].op≠7/\∀q∈succS code t k p,InR code q.1->σ (q.1.toNat*(t.length+1)+q.2)=true\/q∈T
 ini:InR code 0->σ (0*(t.length+1)+i)=true\/((0:Int),i)∈T
theorem PrL.start {code:List In} {t:List UInt8} {i:Nat} (hi:i<=t.length):PrL code t i (λ_=>false) [(0,i)]:=
 ⟨λx hx=>by rw[List.mem_singleton] at hx;subst hx;exact .start i rfl hi,λk p _ _ h=>(by cases h),λ_=> .inr (List.mem_singleton.2 rfl)⟩
theorem PrL.skip {code:List In} {t:List UInt8} {i:Nat} {σ:Nat->Bool} {T:List (Int×Nat)} {x:Int×Nat} (h:PrL code t i σ (T++[x])) (hx:InR code x.1->σ (x.1.toNat*(t.length+1)+x.2)=true):PrL code t i σ T:=by
 refine ⟨λy hy=>h.snd y (List.mem_append_left _ hy),λk p hk hp hs=>⟨(h.cls k p hk hp hs).1,λq hq hi=>?_⟩,λhi=>?_⟩
 ·rcases (h.cls k p hk hp hs).2 q hq hi with h1|h1
  ·exact .inl h1
  ·rcases List.mem_append.1 h1 with h2|h2
   ·exact .inr h2
   ·rw[List.mem_singleton] at h2;subst h2;exact .inl (hx hi)
 ·rcases h.ini hi with h1|h1
  ·exact .inl h1
  ·rcases List.mem_append.1 h1 with h2|h2
   ·exact .inr h2
   ·rw[List.mem_singleton] at h2;subst h2;exact .inl (hx hi)
theorem PrL.visit {code:List In} {t:List UInt8} {i:Nat} {σ:Nat->Bool} {T:List (Int×Nat)} {k p:Nat} (h:PrL code t i σ (T++[((k:Int),p)])) (hk:k<code.length) (hp:p<=t.length) (h7:code[k].op≠7) :
  PrL code t i (λj=>j==k*(t.length+1)+p||σ j) (T++succS code t k p):=by
 have hx:Rc code t (· = i) k p:=h.snd _ (List.mem_append_right _ (List.mem_singleton.2 rfl));have key:∀q:Int×Nat,InR code q.1->(σ (q.1.toNat*(t.length+1)+q.2)=true\/q∈T++[((k:Int),p)])->((q.1.toNat*(t.length+1)+q.2==k*(t.length+1)+p)||σ (q.1.toNat*(t.length+1)+q.2))=true\/q∈T++succS code t k p:=by
  intro q _ h1;rcases h1 with h1|h1
  ·left;rw[h1,Bool.or_true]
  ·rcases List.mem_append.1 h1 with h2|h2
   ·right;exact List.mem_append_left _ h2
   ·rw[List.mem_singleton] at h2;subst h2;left;simp
 refine ⟨λy hy=>?_,λk' p' hk' hp' hs=>?_,λhi=>?_⟩
 ·rcases List.mem_append.1 hy with h1|h1
  ·exact h.snd y (List.mem_append_left _ h1)
  ·exact .step _ _ _ hx h1
 ·by_cases e:k'*(t.length+1)+p'=k*(t.length+1)+p
  ·obtain ⟨rfl,rfl⟩:=idx_inj hp' hp e;exact ⟨h7,λq hq _=> .inr (List.mem_append_right _ hq)⟩
  ·have e2:(k'*(t.length+1)+p'==k*(t.length+1)+p)=false:=beq_eq_false_iff_ne.2 e;rw[e2,Bool.false_or] at hs;obtain ⟨h1,h2⟩:=h.cls k' p' hk' hp' hs;exact ⟨h1,λq hq hi=>key q hi (h2 q hq hi)⟩
 ·exact key (0,i) hi (h.ini hi)
theorem PrL.done {code:List In} {t:List UInt8} {i:Nat} {σ:Nat->Bool} (h:PrL code t i σ []):¬AccS code t (· = i):=by
 rintro ⟨k,p,hk,h1,h2⟩;have hp:=h1.le;have h3:=h1.all (λk p=>p<=t.length->σ (k*(t.length+1)+p)=true)
  (λhi _=>by rcases h.ini hi with h4|h4;exact h4;cases h4)
  (λk p hk hs q hq hi hq2=>by
   have hp:p<=t.length:=by
    rcases Nat.lt_or_ge t.length p with h5|h5
    ·exfalso;rw[succS_at hk] at hq;have hne:¬p<t.length:=by omega
     have hne2:¬p=t.length:=by omega
     have hne3:¬p=0:=by omega
     simp only[hne,hne2,hne3,dite_false,if_false] at hq;split at hq
     ·cases hq
     ·split at hq
      ·simp only[List.mem_cons,List.not_mem_nil,or_false] at hq;rcases hq with rfl|rfl<;>(simp only at hq2;omega)
      ·split at hq
       ·rw[List.mem_singleton] at hq;subst hq;simp only at hq2;omega
       ·split at hq
        ·rw[List.mem_singleton] at hq;subst hq;simp only at hq2;omega
        ·split at hq
         ·cases hq
         ·split at hq<;>cases hq
    ·exact h5
   rcases (h.cls k p hk hp (hs hp)).2 q hq hi with h4|h4
   ·exact h4
   ·cases h4) ⟨by omega,by omega⟩ hp
 rw[Int.toNat_natCast] at h3;exact (h.cls k p hk hp h3).1 h2
theorem PrL.found {code:List In} {t:List UInt8} {i:Nat} {σ:Nat->Bool} {T:List (Int×Nat)} {k p:Nat} (h:PrL code t i σ (T++[((k:Int),p)])) (hk:k<code.length) (h7:code[k].op=7):AccS code t (· = i):=
 ⟨k,p,hk,h.snd _ (List.mem_append_right _ (List.mem_singleton.2 rfl)),h7⟩
def unseenN (σ:Nat->Bool) (N:Nat):Nat:=((List.range N).filter λj=> !σ j).length
theorem unseen_visit {σ:Nat->Bool} {N m:Nat} (hm:m<N) (h:σ m=false):unseenN (λj=>j==m||σ j) N+1=unseenN σ N:=by
 unfold unseenN;induction N with
 | zero=>omega
 | succ N ih=>
  rw[List.range_succ,List.filter_append,List.filter_append,List.length_append,List.length_append];by_cases e:m=N
  ·subst e;have h1:(List.range m).filter (λj=> !(j==m||σ j))=(List.range m).filter (λj=> !σ j):=by
    apply List.filter_congr;intro j hj;have:(j==m)=false:=beq_eq_false_iff_ne.2 (by have:=List.mem_range.1 hj;omega);rw[this,Bool.false_or]
   rw[h1];simp[h]
  ·have:=ih (by omega);have e2:(N==m)=false:=beq_eq_false_iff_ne.2 (λe'=>e e'.symm);have e3:(List.filter (λj=> !(j==m||σ j)) [N])=List.filter (λj=> !σ j) [N]:=by simp[List.filter_cons,e2]
   rw[e3];omega
end Go.Proofs.YtjapddfnpmlifaaGreatDoor
