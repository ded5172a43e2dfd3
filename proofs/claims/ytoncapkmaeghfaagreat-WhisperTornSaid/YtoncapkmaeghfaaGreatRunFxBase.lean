import Derived.WalkKit
import Derived.WalkSpells
import Derived.WalkLawsBesides
import Derived.Maps.AppendAt
import Derived.OwnWalk
import Derived.Lib.Hide
import Derived.Deep.Quiet
import Derived.Test.YtoncapkmaeghfaaGreatProg
import Derived.Deep.Cut
import Derived.Deep.CutRange
import Derived.Deep.Light
set_option linter.all false
set_option maxRecDepth 1000000
set_option maxHeartbeats 12800000
namespace Go.Proofs.YtoncapkmaeghfaaGreat
open Go.RowKit
def Gr (w w':World):Prop:=Below w.heap.size w w'
theorem Gr.refl (w:World):Gr w w:=Below.refl _ _
theorem Gr.size {a w:World} (h:Gr a w):a.heap.size≤w.heap.size:=Below.size h
theorem Gr.alloc {a w:World} (h:Gr a w) (o:Obj):Gr a (w.alloc o):=Below.alloc h h.size o
theorem Gr.drew {a w:World} (h:Gr a w):Gr a w.drew:=Below.drew h
theorem Gr.setCell {a w:World} (h:Gr a w) {p:Addr} (hp:a.heap.size≤p.block) (u:Value):Gr a (w.setCell p u):=Below.setCell h hp u
theorem Gr.trans {a b c:World} (h:Gr a b) (k:Gr b c):Gr a c:=Below.trans h (Below.mono k h.size)
theorem gq {a b:World} (h:Gr a b:=by repeat (first|exact Gr.refl _|refine Gr.alloc ?_ _|refine Gr.drew ?_|refine Gr.setCell ?_ (by first|(simp;done)|(simp;omega)|omega) _|refine Gr.trans ?_ (by assumption))):Gr a b:=h
theorem Gr.cells {W w1:World} (hb:Gr W w1):(∀b o,b<W.heap.size→w1.cell? ⟨b,o,none⟩=W.cell? ⟨b,o,none⟩)∧(∀b o,b<W.heap.size→w1.frozen? ⟨b,o,none⟩=W.frozen? ⟨b,o,none⟩):=
 ⟨fun b o h=>Below.cell hb (p:=⟨b,o,none⟩) h,fun b o h=>Below.frozen hb (p:=⟨b,o,none⟩) h⟩
structure Vl where
 ok:Bool
 n:Int
def isB (a:Vl):Bool:=bif a.ok then (decide (-4611686018427387904≤a.n)&&decide (a.n≤4611686018427387904)) else a.n==0
def knB (a:Vl):Bool:=a.ok&&isB a
def ofV (n:Int):Vl:=bif isB ⟨true,n⟩ then ⟨true,n⟩ else ⟨false,0⟩
def intV (n:Int):Vl:=bif decide (-4611686018427≤n)&&decide (n≤4611686018427) then ofV (n*1000000) else ⟨false,0⟩
def sumV (a b:Vl):Vl:=bif knB a&&knB b then ofV (a.n+b.n) else ⟨false,0⟩
def addV (l:List Vl):Vl:=l.foldl sumV (ofV 0)
def lessB (a b:Vl):Bool:=knB a&&knB b&&decide (a.n<b.n)
theorem isB_iff (ok:Bool) (n:Int):isB ⟨ok,n⟩=true↔(if ok=true then -4611686018427387904≤n∧n≤4611686018427387904 else n=0):=by
 cases ok<;>simp[isB]
theorem knB_iff (a:Vl):knB a=true↔a.ok=true∧ -4611686018427387904≤a.n∧a.n≤4611686018427387904:=by
 obtain ⟨ok,n⟩:=a
 cases ok<;>simp[knB,isB]
theorem knB_lo {a:Vl} (h:knB a=true): -4611686018427387904≤a.n:=((knB_iff a).1 h).2.1
theorem knB_hi {a:Vl} (h:knB a=true):a.n≤4611686018427387904:=((knB_iff a).1 h).2.2
theorem ofV_in {n:Int} (h: -4611686018427387904≤n) (h':n≤4611686018427387904):ofV n=⟨true,n⟩:=by simp[ofV,isB,h,h']
theorem ofV_hi {n:Int} (h:4611686018427387904<n):ofV n=⟨false,0⟩:=by
 have:¬n≤4611686018427387904:=by omega
 simp[ofV,isB,this]
theorem ofV_lo {n:Int} (h:n < -4611686018427387904):ofV n=⟨false,0⟩:=by
 have:¬ -4611686018427387904≤n:=by omega
 simp[ofV,isB,this]
theorem ofV_isB (n:Int):isB (ofV n)=true:=by
 unfold ofV
 cases h:isB ⟨true,n⟩
 ·
  rfl
 ·
  exact h
theorem Pu:(∀(t:Array Value) (f:List Deferred) (d:Tmp) (v:Value),Act.put ⟨t,f⟩ (some d) v=⟨t.setIfInBounds d v,f⟩)∧(∀(a:Act) (v:Value),a.put none v=a)∧(∀(l:List Value) (i:Nat) (x:Value),l.toArray.setIfInBounds i x=(l.set i x).toArray)
 ∧ (∀(x y:Value) (l:List Value),(x::l).set 0 y=y::l)∧(∀(x y:Value) (l:List Value) (n:Nat),(x::l).set (n+1) y=x::l.set n y):=
 ⟨fun _ _ _ _=>rfl,fun _ _=>rfl,fun l i x=>List.setIfInBounds_toArray l i x,fun _ _ _=>rfl,fun _ _ _ _=>rfl⟩
theorem add_blk (a:Addr) (n:Nat):(a.add n).block=a.block:=by unfold Addr.add;split<;>rfl
theorem add_two (a:Addr) (i j:Nat):(a.add i).add j=a.add (i+j):=by
 unfold Addr.add
 rcases Nat.eq_zero_or_pos i with hi|hi<;>rcases Nat.eq_zero_or_pos j with hj|hj
 ·
  simp[hi,hj]
 ·
  simp[hi,Nat.ne_of_gt hj]
 ·
  simp[hj]
 ·
  simp[Nat.ne_of_gt hi,Nat.ne_of_gt hj,Nat.add_assoc]
theorem add_next (a:Addr) (i j:Nat):a.add (i+(j+1))=⟨(a.add i).block,(a.add i).off+(j+1),none⟩:=by
 rw[←add_two];rfl
def Rd (w:World) (size:Nat) (A:Option Addr) (n:Nat) (xs:List Value):Prop:=
 xs.length=n*size∧(0<n→∃ad,A=some ad∧ad.block<w.heap.size∧∀j u,xs[j]?=some u→w.cell? (ad.add j)=some u)
theorem Rd.nil (w:World) (size:Nat) (A:Option Addr):Rd w size A 0 []:=⟨by simp,fun h=>absurd h (by omega)⟩
theorem Gr.cell {w w':World} (h:Gr w w') {p:Addr} (hp:p.block<w.heap.size):w'.cell? p=w.cell? p:=Below.cell h hp
theorem Gr.frozen {w w':World} (h:Gr w w') {p:Addr} (hp:p.block<w.heap.size):w'.frozen? p=w.frozen? p:=Below.frozen h hp
theorem Rd.gr {w w':World} {size n:Nat} {A:Option Addr} {xs:List Value} (h:Rd w size A n xs) (g:Gr w w'):Rd w' size A n xs:=
 ⟨h.1,fun hn=>by
  obtain ⟨ad,e,hb,hc⟩:=h.2 hn
  exact ⟨ad,e,Nat.lt_of_lt_of_le hb g.size,fun j u hu=>(g.cell (by rw[add_blk];exact hb)).trans (hc j u hu)⟩⟩
def vcells (l:List Vl):List Value:=l.flatMap fun v=>[.bool v.ok, .int .i64 v.n]
theorem vcells_cons (v:Vl) (l:List Vl):vcells (v::l)= .bool v.ok :: .int .i64 v.n::vcells l:=rfl
theorem vcells_append (l m:List Vl):vcells (l++m)=vcells l++vcells m:=by simp[vcells]
theorem vcells_length (l:List Vl):(vcells l).length=l.length*2:=by
 induction l with
 | nil=>rfl
 | cons v l ih=>rw[vcells_cons];simp only[List.length_cons,ih];omega
theorem vcells_at (l:List Vl):∀(k:Nat) (h:k<l.length),(vcells l)[k*2]?=some (.bool l[k].ok)∧(vcells l)[k*2+1]?=some (.int .i64 l[k].n):=by
 induction l with
 | nil=>intro k h;simp at h
 | cons v l ih=>
  intro k h
  rw[vcells_cons]
  match k,h with
  | 0,_=>exact ⟨rfl,rfl⟩
  | k+1,h=>
   have hk:k<l.length:=by simp only[List.length_cons] at h;omega
   have e:(k+1)*2=k*2+1+1:=by omega
   rw[e]
   simp only[List.getElem?_cons_succ,List.getElem_cons_succ]
   exact ih k hk
def Rv (w:World) (A:Option Addr) (l:List Vl):Prop:=Rd w 2 A l.length (vcells l)
theorem Rv.nil (w:World) (A:Option Addr):Rv w A []:=Rd.nil w 2 A
theorem Rv.gr {w w':World} {A:Option Addr} {l:List Vl} (h:Rv w A l) (g:Gr w w'):Rv w' A l:=Rd.gr h g
theorem Rv.at {w:World} {A:Option Addr} {l:List Vl} (h:Rv w A l) {k:Nat} (hk:k<l.length) :
  ∃ad:Addr,A=some ad∧ad.block<w.heap.size∧w.cell? (ad.add (k*2))=some (.bool l[k].ok)∧w.cell? ⟨(ad.add (k*2)).block,(ad.add (k*2)).off+1,none⟩=some (.int .i64 l[k].n):=by
 obtain ⟨ad,e,hb,hc⟩:=h.2 (by omega)
 exact ⟨ad,e,hb,hc _ _ (vcells_at l k hk).1,(congrArg w.cell? (add_next ad (k*2) 0)).symm.trans (hc _ _ (vcells_at l k hk).2)⟩
section
variable {P:Program} {w:World}
theorem append_nil_run (base:Nat) (t ty e:TypeId) (i:TypeInfo) (size:Nat) (ht:P.underlying t=some (.slice e)) (hi:P.info? e=some i)
  {v:Value} {n:Nat} {xs:List Value} (hown:w.ownsRow base e size v n xs) (c:Nat):(Builtin.append_ #[t,t] ty #[v, .slice none 0 c]).run P w= .ok v w:=by
 obtain ⟨_,⟨hv,_⟩|⟨g,cap,cur,hv,_,_,hnc,_⟩⟩:=hown<;>subst hv
 ·
  simp[Builtin.append_,run_underlying ht,sizeOf,typeInfo,hi,Builtin.lenOf,Builtin.firstCells]
 ·
  simp[Builtin.append_,run_underlying ht,sizeOf,typeInfo,hi,Builtin.lenOf,Builtin.firstCells,hnc,storeCells]
theorem wpList_append_rd {ops:Array Oper} {rest:List Oper} {o:Oper} {a:Act} {Q:Exit→Act→World→Prop} (hgd:o.guard=none) (s x:Operand) (t:TypeId)
  (ho:o.op= .call {callee:= .builtin .append,args:= #[s,x],argTypes:= #[t,t]})
  (base:Nat) (e:TypeId) (i:TypeInfo) (z:Value) (size bytes:Nat) (ht:P.underlying t=some (.slice e)) (hi:P.info? e=some i) (hz:i.zero=some z)
  (hsize:i.size=size) (hby:i.bytes=bytes) (hzs:z.cells.size=size) (hsz:0<size)
  (v:Value) (n:Nat) (xs:List Value) (hs:a.eval s=v) (hown:w.ownsRow base e size v n xs)
  (A:Option Addr) (m c:Nat) (news:List Value) (hx:a.eval x= .slice A m c) (hr:Rd w size A m news) (h1:∀u∈news,u.oneCell'=true)
  (h63:n+m≤maxLen) (hbytes:(n+m)*bytes≤140737488355328) (hbase:base≤w.heap.size)
  (h:∀v' w',w'.ownsRow base e size v' (n+m) (xs++news)→w.grownBy w' v.ownBlock→(v'.ownBlock=v.ownBlock∨v'.ownBlock=some w.heap.size)→wpList P ops Q rest (a.put o.dst v') w'):wpList P ops Q (o::rest) a w:=by
 have hrun:∃v' w',(Builtin.append_ #[t,t] o.type #[v, .slice A m c]).run P w= .ok v' w'∧w'.ownsRow base e size v' (n+m) (xs++news)∧w.grownBy w' v.ownBlock∧(v'.ownBlock=v.ownBlock∨v'.ownBlock=some w.heap.size):=by
  rcases Nat.eq_zero_or_pos m with hm|hm
  ·
   subst hm
   have hn:news=[]:=List.eq_nil_of_length_eq_zero (by simpa using hr.1)
   subst hn
   cases A with
   | none=>exact ⟨v,w,append_nil_run base t o.type e i size ht hi hown c,by simpa using hown,World.grownBy.refl w _, .inl rfl⟩
   | some ad=>
    obtain ⟨v',w',k1,k2,k3,_,k5⟩:=run_append_own_at (P:=P) w base t o.type e i z size bytes ht hi hz hsize hby hzs hsz v n xs hown ad 0 c [] (by simp) (by intro j u hu;simp at hu) (by intro u hu;simp at hu) h63 hbytes hbase
    exact ⟨v',w',k1,k2,k3,k5⟩
  ·
   obtain ⟨ad,rfl,_,hc⟩:=hr.2 hm
   obtain ⟨v',w',k1,k2,k3,_,k5⟩:=run_append_own_at (P:=P) w base t o.type e i z size bytes ht hi hz hsize hby hzs hsz v n xs hown ad m c news hr.1 hc h1 h63 hbytes hbase
   exact ⟨v',w',k1,k2,k3,k5⟩
 obtain ⟨v',w',hr1,h2,h3,h4⟩:=hrun
 refine wpList_plain hgd fun K hK=>?_
 unfold Oper.wp execOp
 simp only[ho,resolve,invoke,builtin,Sem.run_bind,Sem.run_pure,Result.andThen_ok,List.map_toArray,List.map_cons,List.map_nil,hs,hx,hr1]
 exact hK _ _ (h v' w' h2 h3 h4)
end
theorem vcells_one (l:List Vl):∀u∈vcells l,u.oneCell'=true:=by
 intro u hu
 simp only[vcells,List.mem_flatMap] at hu
 obtain ⟨v,_,hv⟩:=hu
 simp at hv
 rcases hv with rfl|rfl<;>rfl
theorem Rd.own {w:World} {base:Nat} {e:TypeId} {size n c:Nat} {A:Option Addr} {xs:List Value} (h:w.ownsRow base e size (.slice A n c) n xs):Rd w size A n xs:=by
 refine ⟨h.1,fun hn=>?_⟩
 have h':=h
 obtain ⟨_,⟨hv,h0⟩|⟨g,cap,cur,hv,_,hh,_,_,_,_⟩⟩:=h'
 ·
  omega
 ·
  have hA:A=some ⟨g,0,none⟩:=by injection hv
  subst hA
  refine ⟨_,rfl,?_,h.cells (g:=g) rfl⟩
  rcases Nat.lt_or_ge g w.heap.size with hlt|hge
  ·
   exact hlt
  ·
   rw[Array.getElem?_eq_none hge] at hh;cases hh
theorem own_form {w:World} {base:Nat} {e:TypeId} {size n:Nat} {v:Value} {xs:List Value} (h:w.ownsRow base e size v n xs):∃A c,v= .slice A n c:=by
 obtain ⟨_,⟨hv,h0⟩|⟨g,cap,cur,hv,_⟩⟩:=h
 ·
  subst h0;exact ⟨none,0,hv⟩
 ·
  exact ⟨_,_,hv⟩
theorem Gr.grown {w0 w w':World} {row:Option Nat} (h:Gr w0 w) (hg:w.grownBy w' row) (hr:∀k,row=some k→w0.heap.size≤k):Gr w0 w':=Below.grown h hg h.size hr
theorem own_grU {w w':World} {base:Nat} {e:TypeId} {size n:Nat} {v:Value} {xs:List Value} (h:w.ownsRow base e size v n xs) (g:Gr w w'):w'.ownsRow base e size v n xs:=by
 obtain ⟨h1,⟨hv,h0⟩|⟨g',cap,cur,hv,hb,hh,h2⟩⟩:=h
 ·
  exact ⟨h1, .inl ⟨hv,h0⟩⟩
 ·
  refine ⟨h1, .inr ⟨g',cap,cur,hv,hb,?_,h2⟩⟩
  have hlt:g'<w.heap.size:=by
   rcases Nat.lt_or_ge g' w.heap.size with hlt|hge
   ·
    exact hlt
   ·
    rw[Array.getElem?_eq_none hge] at hh;cases hh
  exact (Below.block g g' hlt).trans hh
theorem Rd.newU {W:World} {B size n:Nat} (hB:B=W.heap.size) (T:TypeId) (xs:List Value) (hl:xs.length=n*size):Rd (W.alloc (.cells xs.toArray T)) size (some ⟨B,0,none⟩) n xs:=by
 subst hB
 refine ⟨hl,fun _=>⟨_,rfl,by simp,fun j u hu=>?_⟩⟩
 have e:(⟨W.heap.size,0,none⟩:Addr).add j=⟨W.heap.size,j,none⟩:=by
  unfold Addr.add;split
  ·
   rename_i h;subst h;rfl
  ·
   rw[Nat.zero_add]
 rw[e]
 exact (cell_of_row _ _ _ _ _ _ (heap_alloc_new W _)).trans (by simpa using hu)
theorem own_blockU {w:World} {base:Nat} {e:TypeId} {size n c:Nat} {A:Option Addr} {xs:List Value} (h:w.ownsRow base e size (.slice A n c) n xs) (h0:0<n):∃g,A=some ⟨g,0,none⟩∧base≤g∧g<w.heap.size∧∀j u,xs[j]?=some u→w.cell? ⟨g,j,none⟩=some u:=by
 have h':=h
 obtain ⟨_,⟨hv,h0'⟩|⟨g,cap,cur,hv,hb,hh,_,_,_,_⟩⟩:=h'
 ·
  omega
 ·
  have hA:A=some ⟨g,0,none⟩:=by injection hv
  subst hA
  refine ⟨g,rfl,hb,?_,fun j u hu=>?_⟩
  ·
   rcases Nat.lt_or_ge g w.heap.size with hlt|hge
   ·
    exact hlt
   ·
    rw[Array.getElem?_eq_none hge] at hh;cases hh
  ·
   have:=h.cells (g:=g) rfl j u hu
   have e:(⟨g,0,none⟩:Addr).add j=⟨g,j,none⟩:=by
    unfold Addr.add;split
    ·
     rename_i h;subst h;rfl
    ·
     rw[Nat.zero_add]
   first|exact this|(rw[e] at this;exact this)
theorem own_setU {w:World} {base:Nat} {e:TypeId} {size n:Nat} {v:Value} {xs:List Value} (h:w.ownsRow base e size v n xs) {p:Addr} (hp:p.block<base) (u:Value):(w.setCell p u).ownsRow base e size v n xs:=by
 obtain ⟨h1,⟨hv,h0⟩|⟨g',cap,cur,hv,hb,hh,h2⟩⟩:=h
 ·
  exact ⟨h1, .inl ⟨hv,h0⟩⟩
 ·
  exact ⟨h1, .inr ⟨g',cap,cur,hv,hb,(Below.heap_setCell w p u g' (by omega)).trans hh,h2⟩⟩
theorem info_parts {P:Program} {e:TypeId} {z:Value} {size bytes:Nat} (h:(P.info? e).map (fun i=>(i.zero,i.size,i.bytes))=some (some z,size,bytes)):∃i0,P.info? e=some i0∧i0.zero=some z∧i0.size=size∧i0.bytes=bytes:=by
 cases hi:P.info? e with
 | none=>rw[hi] at h;cases h
 | some i=>
  rw[hi] at h
  simp only[Option.map_some,Option.some.injEq,Prod.mk.injEq] at h
  exact ⟨i,rfl,h.1,h.2.1,h.2.2⟩
section
variable {P:Program} {w:World}
theorem Rd.grown {w w':World} {size n:Nat} {A:Option Addr} {xs:List Value} {row:Option Nat} (h:Rd w size A n xs) (hg:w.grownBy w' row) (hne:∀ad,A=some ad→some ad.block≠row):Rd w' size A n xs:=
 ⟨h.1,fun hn=>by
  obtain ⟨ad,e,hb,hc⟩:=h.2 hn
  exact ⟨ad,e,Nat.lt_of_lt_of_le hb hg.size,fun j u hu=>hg.cell (hc j u hu) (by rw[add_blk];exact hne ad e)⟩⟩
theorem wp_append_rd0 {o:Oper} {a:Act} {Q:Exit→Act→World→Prop} {K:Act→World→Prop} (s x:Operand) (t:TypeId)
  (ho:o.op= .call {callee:= .builtin .append,args:= #[s,x],argTypes:= #[t,t]})
  (base:Nat) (e:TypeId) (i:TypeInfo) (z:Value) (size bytes:Nat) (ht:P.underlying t=some (.slice e)) (hi:P.info? e=some i) (hz:i.zero=some z)
  (hsize:i.size=size) (hby:i.bytes=bytes) (hzs:z.cells.size=size) (hsz:0<size)
  (v:Value) (n:Nat) (xs:List Value) (hs:a.eval s=v) (hown:w.ownsRow base e size v n xs)
  (A:Option Addr) (m c:Nat) (news:List Value) (hx:a.eval x= .slice A m c) (hr:Rd w size A m news) (h1:∀u∈news,u.oneCell'=true)
  (h63:n+m≤maxLen) (hbytes:(n+m)*bytes≤140737488355328) (hbase:base≤w.heap.size)
  (h:∀v' w',w'.ownsRow base e size v' (n+m) (xs++news)→w.grownBy w' v.ownBlock→(v'.ownBlock=v.ownBlock∨v'.ownBlock=some w.heap.size)→K (a.put o.dst v') w'):Oper.wp P o a w K Q:=by
 have hrun:∃v' w',(Builtin.append_ #[t,t] o.type #[v, .slice A m c]).run P w= .ok v' w'∧w'.ownsRow base e size v' (n+m) (xs++news)∧w.grownBy w' v.ownBlock∧(v'.ownBlock=v.ownBlock∨v'.ownBlock=some w.heap.size):=by
  rcases Nat.eq_zero_or_pos m with hm|hm
  ·
   subst hm
   have hn:news=[]:=List.eq_nil_of_length_eq_zero (by simpa using hr.1)
   subst hn
   cases A with
   | none=>exact ⟨v,w,append_nil_run base t o.type e i size ht hi hown c,by simpa using hown,World.grownBy.refl w _, .inl rfl⟩
   | some ad=>
    obtain ⟨v',w',k1,k2,k3,_,k5⟩:=run_append_own_at (P:=P) w base t o.type e i z size bytes ht hi hz hsize hby hzs hsz v n xs hown ad 0 c [] (by simp) (by intro j u hu;simp at hu) (by intro u hu;simp at hu) h63 hbytes hbase
    exact ⟨v',w',k1,k2,k3,k5⟩
  ·
   obtain ⟨ad,rfl,_,hc⟩:=hr.2 hm
   obtain ⟨v',w',k1,k2,k3,_,k5⟩:=run_append_own_at (P:=P) w base t o.type e i z size bytes ht hi hz hsize hby hzs hsz v n xs hown ad m c news hr.1 hc h1 h63 hbytes hbase
   exact ⟨v',w',k1,k2,k3,k5⟩
 obtain ⟨v',w',hr1,h2,h3,h4⟩:=hrun
 unfold Oper.wp execOp
 simp only[ho,resolve,invoke,builtin,Sem.run_bind,Sem.run_pure,Result.andThen_ok,List.map_toArray,List.map_cons,List.map_nil,hs,hx,hr1]
 exact h v' w' h2 h3 h4
end
structure Kp (S:Nat→Prop) (w w':World):Prop where
 os:w'.os=w.os
 tape:w'.tape=w.tape
 output:w'.output=w.output
 size:w.heap.size≤w'.heap.size
 block:∀k,k<w.heap.size→¬S k→w'.heap[k]?=w.heap[k]?
theorem Kp.refl (S:Nat→Prop) (w:World):Kp S w w:=⟨rfl,rfl,rfl,Nat.le_refl _,fun _ _ _=>rfl⟩
theorem Kp.trans {S S2:Nat→Prop} {w w1 w2:World} (h:Kp S w w1) (k:Kp S2 w1 w2) (hs:∀i,i<w.heap.size→S2 i→S i):Kp S w w2:=
 ⟨k.os.trans h.os,k.tape.trans h.tape,k.output.trans h.output,Nat.le_trans h.size k.size,fun i hi hn=>(k.block i (Nat.lt_of_lt_of_le hi h.size) (fun h2=>hn (hs i hi h2))).trans (h.block i hi hn)⟩
theorem Kp.of_gr {w w':World} (S:Nat→Prop) (g:Gr w w'):Kp S w w':=⟨g.os,g.tape,g.output,g.size,fun k hk _=>Below.block g k hk⟩
theorem Kp.gr {w w':World} {S:Nat→Prop} (h:Kp S w w') (hs:∀k,k<w.heap.size→¬S k):Gr w w':=⟨h.os,h.tape,h.output,h.size,fun k hk=>h.block k hk (hs k hk)⟩
theorem Kp.mono {S S2:Nat→Prop} {w w':World} (h:Kp S w w') (hs:∀i,i<w.heap.size→S i→S2 i):Kp S2 w w':=⟨h.os,h.tape,h.output,h.size,fun k hk hn=>h.block k hk (fun h2=>hn (hs k hk h2))⟩
theorem Kp.set {S:Nat→Prop} {w w':World} (h:Kp S w w') {p:Addr} (hp:S p.block∨w.heap.size≤p.block) (u:Value):Kp S w (w'.setCell p u):=
 ⟨h.os,h.tape,h.output,Nat.le_trans h.size (by simp),fun k hk hn=>(Below.heap_setCell w' p u k (fun e=>by
  rcases hp with h1|h1
  ·
   exact hn (by rw[e];exact h1)
  ·
   omega)).trans (h.block k hk hn)⟩
theorem Kp.grown {S:Nat→Prop} {w w1 w2:World} {row:Option Nat} (h:Kp S w w1) (g:w1.grownBy w2 row) (hr:∀k,row=some k→S k∨w.heap.size≤k):Kp S w w2:=
 ⟨g.os.trans h.os,g.tape.trans h.tape,g.output.trans h.output,Nat.le_trans h.size g.size,fun k hk hn=>(g.block k (Nat.lt_of_lt_of_le hk h.size) (fun e=>by
  rcases hr k e.symm with h1|h1
  ·
   exact hn h1
  ·
   omega)).trans (h.block k hk hn)⟩
theorem Kp.alloc {S:Nat→Prop} {w w':World} (h:Kp S w w') (o:Obj):Kp S w (w'.alloc o):=h.trans (Kp.of_gr (fun _=>False) (Gr.alloc (Gr.refl w') o)) (fun _ _ h=>h.elim)
theorem Kp.cell {S:Nat→Prop} {w w':World} (h:Kp S w w') {a:Addr} (hl:a.block<w.heap.size) (hn:¬S a.block):w'.cell? a=w.cell? a:=World.cell?_of_block (h.block _ hl hn)
theorem Kp.frozen {S:Nat→Prop} {w w':World} (h:Kp S w w') {a:Addr} (hl:a.block<w.heap.size) (hn:¬S a.block):w'.frozen? a=w.frozen? a:=World.frozen?_of_block (h.block _ hl hn)
theorem Kp.rd {S:Nat→Prop} {w w':World} (h:Kp S w w') {size n:Nat} {A:Option Addr} {xs:List Value} (hr:Rd w size A n xs) (hn:0<n→∀ad,A=some ad→¬S ad.block):Rd w' size A n xs:=
 ⟨hr.1,fun h0=>by
  obtain ⟨ad,e,hb,hc⟩:=hr.2 h0
  exact ⟨ad,e,Nat.lt_of_lt_of_le hb h.size,fun j u hu=>(h.cell (a:=ad.add j) (by rw[add_blk];exact hb) (by rw[add_blk];exact hn h0 ad e)).trans (hc j u hu)⟩⟩
theorem Kp.own {S:Nat→Prop} {w w':World} (h:Kp S w w') {base:Nat} {e:TypeId} {size n:Nat} {v:Value} {xs:List Value} (ho:w.ownsRow base e size v n xs) (hn:∀k,v.ownBlock=some k→¬S k):w'.ownsRow base e size v n xs:=by
 obtain ⟨h1,⟨hv,h0⟩|⟨g',cap,cur,hv,hb,hh,h2⟩⟩:=ho
 ·
  exact ⟨h1, .inl ⟨hv,h0⟩⟩
 ·
  exact ⟨h1, .inr ⟨g',cap,cur,hv,hb,(h.block g' (Array.getElem?_eq_some_iff.1 hh).1 (hn g' (by rw[hv];rfl))).trans hh,h2⟩⟩
def blkA (A:Option Addr):Option Nat:=A.map (·.block)
theorem own_blkA (A:Option Addr) (n c:Nat):(Value.slice A n c).ownBlock=blkA A:=by cases A<;>rfl
def bys (l:List UInt8):List Value:=l.map fun b=> .int .u8 (b.toNat:Int)
theorem bys_append (l m:List UInt8):bys (l++m)=bys l++bys m:=by simp[bys]
theorem bys_length (l:List UInt8):(bys l).length=l.length*1:=by simp[bys]
theorem bys_one (l:List UInt8):∀u∈bys l,u.oneCell'=true:=by
 intro u hu
 simp only[bys,List.mem_map] at hu
 obtain ⟨b,_,rfl⟩:=hu
 rfl
theorem bys_at (l:List UInt8) (k:Nat) (h:k<l.length):(bys l)[k]?=some (.int .u8 (l[k].toNat:Int)):=by simp[bys,List.getElem?_map,List.getElem?_eq_getElem h]
def Rb (w:World) (A:Option Addr) (l:List UInt8):Prop:=Rd w 1 A l.length (bys l)
theorem Rb.nil (w:World) (A:Option Addr):Rb w A []:=Rd.nil w 1 A
theorem Rb.gr {w w':World} {A:Option Addr} {l:List UInt8} (h:Rb w A l) (g:Gr w w'):Rb w' A l:=Rd.gr h g
theorem Rb.at {w:World} {A:Option Addr} {l:List UInt8} (h:Rb w A l) {k:Nat} (hk:k<l.length):∃ad:Addr,A=some ad∧ad.block<w.heap.size∧w.cell? (ad.add k)=some (.int .u8 (l[k].toNat:Int)):=by
 obtain ⟨ad,e,hb,hc⟩:=h.2 (by omega)
 exact ⟨ad,e,hb,hc _ _ (bys_at l k hk)⟩
theorem Rb.own {w:World} {base:Nat} {e:TypeId} {n c:Nat} {A:Option Addr} {l:List UInt8} (h:w.ownsRow base e 1 (.slice A n c) n (bys l)):Rb w A l:=by
 have hn:n=l.length:=by have:=h.1;rw[bys_length] at this;omega
 subst hn
 exact Rd.own h
theorem ret_b {a b:Bool} (h:a=b):Ending.returned (.bool a)= .returned (.bool b):=by rw[h]
theorem ret_i {a b:Int} (h:a=b):Ending.returned (.int .i64 a)= .returned (.int .i64 b):=by rw[h]
def maxTime:Nat:=4294967295
def fitsS (a b:Nat×Nat):Bool:=Nat.blt a.1 b.1&&b.1%a.1==0&&Nat.blt (a.1*a.2) (b.1*b.2)&&Nat.ble (b.1/a.1) a.2
def oneOk (a:Nat×Nat):Bool:=Nat.ble 1 a.1&&Nat.ble a.1 16777216&&Nat.ble 1 a.2&&Nat.ble a.2 16777216
def rowOk (a:Nat×Nat):List (Nat×Nat)→Bool
 | []=>true
 | b::r=>oneOk b&&fitsS a b&&rowOk b r
def sizeS (l:List (Nat×Nat)):Nat:=16+(l.map fun a=>12+12*a.2).sum
def lastS (l:List (Nat×Nat)):Nat×Nat:=l.getLastD (0,0)
def mayS (l:List (Nat×Nat)):Bool:=Nat.ble l.length 8&&(match l with|[]=>false|a::r=>oneOk a&&rowOk a r)&&Nat.ble (sizeS l) 1048576&&Nat.ble ((lastS l).1*(lastS l).2) maxTime
theorem oneOk_iff {a:Nat×Nat}:oneOk a=true↔1≤a.1∧a.1≤16777216∧1≤a.2∧a.2≤16777216:=by
 simp only[oneOk,Bool.and_eq_true,Nat.ble_eq]
 constructor
 ·
  rintro ⟨⟨⟨a,b⟩,c⟩,d⟩;exact ⟨a,b,c,d⟩
 ·
  rintro ⟨a,b,c,d⟩;exact ⟨⟨⟨a,b⟩,c⟩,d⟩
theorem fits_eq (x1 x2 y1 y2:Nat):fitsS (x1,x2) (y1,y2)=(decide ((x1:Int)<y1)&&(((y1:Int)%x1)==0)&&decide ((x1:Int)*x2<(y1:Int)*y2)&&decide ((y1:Int)/x1≤x2)):=by
 unfold fitsS
 simp only
 rw[Bool.eq_iff_iff]
 simp only[Bool.and_eq_true,Nat.blt_eq,Nat.ble_eq,decide_eq_true_eq,beq_iff_eq]
 rw[←Int.natCast_mul,←Int.natCast_mul,←Int.natCast_ediv,←Int.natCast_emod]
 omega
theorem fits_int (x1 x2 y1 y2:Int) (h1:1≤x1) (h2:x1≤16777216) (h3:1≤y1) (h4:y1≤16777216):IntKind.i64.wrap (Int.tdiv y1 x1)=y1/x1∧Int.tmod y1 x1=y1%x1∧wrap64 (y1/x1)=y1/x1∧¬x1=0:=by
 rw[Int.tdiv_eq_ediv_of_nonneg (by omega),Int.tmod_eq_emod_of_nonneg (by omega)]
 have a:=Int.ediv_nonneg (a:=y1) (b:=x1) (by omega) (by omega)
 have b:=Int.ediv_le_self (a:=y1) x1 (by omega)
 have c:=Int.emod_nonneg y1 (b:=x1) (by omega)
 have d:=Int.emod_lt_of_pos y1 (b:=x1) (by omega)
 exact ⟨IntWalk.i64_in (y1/x1) (by omega),rfl,IntWalk.wrap64_in (y1/x1) (by omega),by omega⟩
theorem prod_small (a b:Int) (h1:1≤a) (h2:a≤16777216) (h3:1≤b) (h4:b≤16777216):IntKind.i64.wrap (a*b)=a*b:=by
 have h5:0≤a*b:=Int.mul_nonneg (by omega) (by omega)
 have h6:a*b≤16777216*16777216:=Int.mul_le_mul h2 h4 (by omega) (by omega)
 exact IntWalk.i64_in (a*b) (by omega)
theorem sizeS_take {l:List (Nat×Nat)} {k:Nat} (h:k<l.length):sizeS (l.take (k+1))=sizeS (l.take k)+(12+12*l[k].2):=by
 unfold sizeS
 rw[List.take_succ_eq_append_getElem h,List.map_append,List.sum_append]
 simp only[List.map_cons,List.map_nil,List.sum_cons,List.sum_nil]
 omega
theorem sizeS_mono (l:List (Nat×Nat)) (k:Nat):sizeS (l.take k)≤sizeS l:=by
 unfold sizeS
 conv=>rhs;rw[←List.take_append_drop k l,List.map_append,List.sum_append]
 omega
theorem sizeS_bound (l:List (Nat×Nat)) (h:∀a∈l,a.2≤16777216):sizeS l≤16+l.length*201326604:=by
 unfold sizeS
 induction l with
 | nil=>simp
 | cons a l ih=>
  have h1:=ih (fun x hx=>h x (List.mem_cons_of_mem _ hx))
  have h2:=h a (List.mem_cons_self ..)
  simp only[List.map_cons,List.sum_cons,List.length_cons]
  omega
def stepOk (l:List (Nat×Nat)) (k:Nat):Bool:=oneOk (l.getD k (0,0))&&(k==0||fitsS (l.getD (k-1) (0,0)) (l.getD k (0,0)))
theorem rowOk_iff:∀(a:Nat×Nat) (l:List (Nat×Nat)),rowOk a l=true↔∀k,k<l.length→stepOk (a::l) (k+1)=true
 | a,[]=>by simp[rowOk]
 | a,b::r=>by
  rw[rowOk,Bool.and_eq_true,Bool.and_eq_true,rowOk_iff b r]
  constructor
  ·
   rintro ⟨⟨h1,h2⟩,h3⟩ k hk
   match k with
   | 0=>simp[stepOk,h1,h2]
   | k+1=>
    have:=h3 k (by simpa using hk)
    simpa [stepOk] using this
  ·
   intro h
   have h0:=h 0 (by simp)
   refine ⟨by simpa [stepOk] using h0,fun k hk=>?_⟩
   have:=h (k+1) (by simpa using hk)
   simpa [stepOk] using this
def stepsS (l:List (Nat×Nat)):Bool:=match l with|[]=>false|a::r=>oneOk a&&rowOk a r
theorem steps_iff (l:List (Nat×Nat)):stepsS l=true↔l≠[]∧∀k,k<l.length→stepOk l k=true:=by
 match l with
 | []=>simp[stepsS]
 | a::r=>
  rw[stepsS,Bool.and_eq_true,rowOk_iff]
  constructor
  ·
   rintro ⟨h1,h2⟩
   refine ⟨by simp,fun k hk=>?_⟩
   match k with
   | 0=>simpa [stepOk] using h1
   | k+1=>exact h2 k (by simpa using hk)
  ·
   rintro ⟨-,h⟩
   refine ⟨?_,fun k hk=>h (k+1) (by simpa using hk)⟩
   have:=h 0 (by simp)
   simpa [stepOk] using this
theorem mayS_eq (l:List (Nat×Nat)):mayS l=(Nat.ble l.length 8&&stepsS l&&Nat.ble (sizeS l) 1048576&&Nat.ble ((lastS l).1*(lastS l).2) maxTime):=by
 unfold mayS stepsS
 rfl
theorem one_no {x1 x2:Nat} (h:x1<1∨16777216<x1∨x2<1∨16777216<x2):oneOk (x1,x2)=false:=by
 cases e:oneOk (x1,x2)
 ·
  rfl
 ·
  have:=oneOk_iff.1 e
  simp only at this
  omega
theorem mayS_step {l:List (Nat×Nat)} {k:Nat} (hk:k<l.length) (h:stepOk l k=false):mayS l=false:=by
 cases e:mayS l
 ·
  rfl
 ·
  rw[mayS_eq] at e
  simp only[Bool.and_eq_true] at e
  have:=((steps_iff l).1 e.1.1.2).2 k hk
  rw[h] at this
  cases this
theorem mayS_size {l:List (Nat×Nat)} (h:1048576<sizeS l):mayS l=false:=by
 cases e:mayS l
 ·
  rfl
 ·
  rw[mayS_eq] at e
  simp only[Bool.and_eq_true,Nat.ble_eq] at e
  omega
theorem mayS_len {l:List (Nat×Nat)} (h:l.length=0∨8<l.length):mayS l=false:=by
 cases e:mayS l
 ·
  rfl
 ·
  rw[mayS_eq] at e
  simp only[Bool.and_eq_true,Nat.ble_eq] at e
  have:=((steps_iff l).1 e.1.1.2).1
  rcases h with h|h
  ·
   exact absurd (List.length_eq_zero_iff.1 h) this
  ·
   omega
theorem mayS_rest {l:List (Nat×Nat)} (h1:1≤l.length) (h8:l.length≤8) (h:∀k,k<l.length→stepOk l k=true) (hs:sizeS l≤1048576):mayS l=Nat.ble ((lastS l).1*(lastS l).2) maxTime:=by
 have:stepsS l=true:=(steps_iff l).2 ⟨fun e=>by rw[e] at h1;simp at h1,h⟩
 have e1:Nat.ble l.length 8=true:=by rw[Nat.ble_eq];exact h8
 have e2:Nat.ble (sizeS l) 1048576=true:=by rw[Nat.ble_eq];exact hs
 rw[mayS_eq,this,e1,e2]
 rfl
theorem lastS_at {l:List (Nat×Nat)} (h:1≤l.length):lastS l=l[l.length-1]'(by omega):=by
 unfold lastS
 rw[List.getLastD_eq_getLast?,List.getLast?_eq_getElem?,List.getElem?_eq_getElem (by omega)]
 rfl
theorem stepOk_at {l:List (Nat×Nat)} {k:Nat} (h:k<l.length):stepOk l k=(oneOk l[k]&&(k==0||fitsS (l[k-1]'(by omega)) l[k])):=by
 unfold stepOk
 rw[List.getD_eq_getElem?_getD,List.getD_eq_getElem?_getD,List.getElem?_eq_getElem h,List.getElem?_eq_getElem (by omega)]
 rfl
def nats (l:List (Int×Int)):List (Nat×Nat):=l.map fun a=>(a.1.toNat,a.2.toNat)
def ints (l:List (Nat×Nat)):List (Int×Int):=l.map fun a=>((a.1:Int),(a.2:Int))
theorem nats_len (l:List (Int×Int)):(nats l).length=l.length:=by simp[nats]
theorem ints_len (l:List (Nat×Nat)):(ints l).length=l.length:=by simp[ints]
theorem nats_at (l:List (Int×Int)) (k:Nat) (h:k<l.length) (h':k<(nats l).length):(nats l)[k]=(l[k].1.toNat,l[k].2.toNat):=by simp[nats]
theorem nats_one {l:List (Int×Int)} {k:Nat} (h:k<l.length) (h':k<(nats l).length) (ho:oneOk (nats l)[k]=true):l[k]=(((nats l)[k].1:Int),((nats l)[k].2:Int)):=by
 have h2:=oneOk_iff.1 ho
 rw[nats_at l k h h'] at h2 ⊢
 simp only at h2 ⊢
 ext
 ·
  simp only;omega
 ·
  simp only;omega
theorem nats_ints (l:List (Nat×Nat)):nats (ints l)=l:=by
 unfold nats ints
 rw[List.map_map]
 conv=>rhs;rw[←List.map_id l]
 rfl
theorem ints_nats {l:List (Int×Int)} (h:∀k (h:k<(nats l).length),oneOk (nats l)[k]=true):ints (nats l)=l:=by
 apply List.ext_getElem
 ·
  rw[ints_len,nats_len]
 ·
  intro k h1 h2
  rw[nats_one h2 (by rw[nats_len];exact h2) (h k _)]
  simp[ints]
def mayH (ag xf:Int) (l:List (Int×Int)):Bool:=decide (1≤ag∧ag≤5∧0≤xf∧xf≤1000000)&&mayS (nats l)
theorem mayH_no {ag xf:Int} {l:List (Int×Int)} (h:ag<1∨5<ag∨xf<0∨1000000<xf):mayH ag xf l=false:=by
 unfold mayH
 rw[decide_eq_false (by omega)]
 rfl
theorem mayH_yes {ag xf:Int} {l:List (Int×Int)} (h1:¬ag<1) (h2:¬5<ag) (h3:¬xf<0) (h4:¬1000000<xf):mayH ag xf l=mayS (nats l):=by
 unfold mayH
 rw[decide_eq_true (by omega)]
 rfl
theorem mayS_one {l:List (Nat×Nat)} (h:mayS l=true):∀k (h:k<l.length),oneOk l[k]=true:=fun k hk=>by
 rw[mayS_eq] at h
 simp only[Bool.and_eq_true] at h
 have:=((steps_iff l).1 h.1.1.2).2 k hk
 rw[stepOk_at hk,Bool.and_eq_true] at this
 exact this.1
theorem mayH_nat {ag xf:Int} {l:List (Int×Int)} (h:mayH ag xf l=true):∃m:List (Nat×Nat),l=ints m∧mayS m=true∧1≤ag∧ag≤5∧0≤xf∧xf≤1000000:=by
 unfold mayH at h
 rw[Bool.and_eq_true,decide_eq_true_eq] at h
 exact ⟨nats l,(ints_nats (mayS_one h.2)).symm,h.2,h.1⟩
theorem mayS_facts {m:List (Nat×Nat)} (h:mayS m=true):1≤m.length∧m.length≤8∧sizeS m≤1048576∧(lastS m).1*(lastS m).2≤4294967295∧∀k (h:k<m.length),1≤m[k].1∧m[k].1≤16777216∧1≤m[k].2∧m[k].2≤16777216:=by
 have h1:=mayS_one h
 rw[mayS_eq] at h
 simp only[Bool.and_eq_true,Nat.ble_eq] at h
 obtain ⟨⟨⟨h8,hs⟩,hz⟩,hl⟩:=h
 have hne:=((steps_iff m).1 hs).1
 refine ⟨by cases m with|nil=>exact absurd rfl hne|cons a r=>simp,h8,hz,hl,fun k hk=>oneOk_iff.1 (h1 k hk)⟩
theorem adB (ad:Addr) (n:Nat):(ad.add n).block=ad.block:=by unfold Addr.add;split<;>rfl
theorem add_own (b n:Nat):(⟨b,0,none⟩:Addr).add n=⟨b,n,none⟩:=by
 unfold Addr.add
 split
 ·
  next h=>rw[h]
 ·
  simp
def Ri (w:World) (A:Option Addr) (l:List (Int×Int)):Prop:=
 0<l.length→∃ad:Addr,A=some ad∧ad.block<w.heap.size∧∀k (h:k<l.length),w.cell? (ad.add (k*2))=some (.int .i64 l[k].1)∧w.cell? ⟨(ad.add (k*2)).block,(ad.add (k*2)).off+1,none⟩=some (.int .i64 l[k].2)
theorem Ri.gr {w w':World} {A:Option Addr} {l:List (Int×Int)} (h:Ri w A l) (g:Gr w w'):Ri w' A l:=fun h0=>by
 obtain ⟨ad,e,hb,hc⟩:=h h0
 exact ⟨ad,e,Nat.lt_of_lt_of_le hb g.size,fun k hk=>⟨(Below.cell g (p:=ad.add (k*2)) (by rw[adB];exact hb)).trans (hc k hk).1,(Below.cell g (p:=⟨(ad.add (k*2)).block,(ad.add (k*2)).off+1,none⟩) (by show (ad.add (k*2)).block<_;rw[adB];exact hb)).trans (hc k hk).2⟩⟩
theorem Ri.rows {w:World} {b:Nat} {l:List (Int×Int)} (h:Ri w (some ⟨b,0,none⟩) l) (h0:0<l.length):b<w.heap.size∧∀k (h:k<l.length),w.cell? ⟨b,k*2,none⟩=some (.int .i64 l[k].1)∧w.cell? ⟨b,k*2+1,none⟩=some (.int .i64 l[k].2):=by
 obtain ⟨ad,e,hb,hc⟩:=h h0
 injection e with e
 subst e
 exact ⟨hb,fun k hk=>by have:=hc k hk;rw[add_own] at this;exact this⟩
theorem Ri.of_rows {w:World} {b:Nat} {l:List (Int×Int)} (h:0<l.length→b<w.heap.size∧∀k (h:k<l.length),w.cell? ⟨b,k*2,none⟩=some (.int .i64 l[k].1)∧w.cell? ⟨b,k*2+1,none⟩=some (.int .i64 l[k].2)):Ri w (some ⟨b,0,none⟩) l:=fun h0=>by
 obtain ⟨hb,hc⟩:=h h0
 exact ⟨_,rfl,hb,fun k hk=>by rw[add_own];exact hc k hk⟩
theorem Ri.nil (w:World) (A:Option Addr):Ri w A []:=fun h=>absurd h (Nat.lt_irrefl _)
def beB (n:Nat):Nat→List UInt8
 | 0=>[]
 | k+1=>(n/256^k%256).toUInt8::beB n k
theorem beB_len (n:Nat):∀k,(beB n k).length=k
 | 0=>rfl
 | k+1=>by rw[beB,List.length_cons,beB_len n k]
def ofB (l:List UInt8):Nat:=l.foldl (fun n c=>n*256+c.toNat) 0
theorem ofB_snoc (l:List UInt8) (c:UInt8):ofB (l++[c])=ofB l*256+c.toNat:=by simp[ofB]
theorem foldl_ofB (l:List UInt8):∀a:Nat,l.foldl (fun n c=>n*256+c.toNat) a=a*256^l.length+ofB l:=by
 induction l with
 | nil=>intro a;simp[ofB]
 | cons c l ih=>
  intro a
  have e:ofB (c::l)=c.toNat*256^l.length+ofB l:=by
   show l.foldl (fun n c=>n*256+c.toNat) (0*256+c.toNat)=_
   rw[ih,Nat.zero_mul,Nat.zero_add]
  rw[List.foldl_cons,ih,e,List.length_cons,Nat.pow_succ,Nat.add_mul,Nat.mul_assoc a 256,Nat.mul_comm 256 (256^l.length)]
  omega
theorem ofB_cons (c:UInt8) (l:List UInt8):ofB (c::l)=c.toNat*256^l.length+ofB l:=by
 rw[ofB,List.foldl_cons,foldl_ofB];simp
theorem ofB_lt:∀l:List UInt8,ofB l<256^l.length
 | []=>by simp[ofB]
 | c::l=>by
  rw[ofB_cons,List.length_cons,Nat.pow_succ]
  have h1:=ofB_lt l
  have h2:=c.toNat_lt
  have h3:(c.toNat+1)*256^l.length≤256*256^l.length:=Nat.mul_le_mul_right _ (by omega)
  rw[Nat.add_mul,Nat.one_mul] at h3
  rw[Nat.mul_comm (256^l.length) 256]
  omega
theorem toNat_mod (n:Nat):(n%256).toUInt8.toNat=n%256:=by
 rw[Nat.toUInt8,UInt8.toNat_ofNat']
 exact Nat.mod_eq_of_lt (Nat.mod_lt _ (by decide))
theorem ofB_beB (n:Nat):∀k,ofB (beB n k)=n%256^k
 | 0=>by simp[beB,ofB,Nat.mod_one]
 | k+1=>by
  rw[beB,ofB_cons,ofB_beB n k,beB_len,toNat_mod,Nat.pow_succ]
  have:=Nat.mod_mul (x:=n) (a:=256^k) (b:=256)
  rw[this,Nat.mul_comm (n/256^k%256)]
  omega
theorem beB_ofB:∀l:List UInt8,beB (ofB l) l.length=l
 | []=>rfl
 | c::l=>by
  have key:∀(a:Nat) (m:List UInt8),beB (a*256^m.length+ofB m) m.length=beB (ofB m) m.length:=by
   intro a m
   have h:∀k,k≤m.length→beB (a*256^m.length+ofB m) k=beB (ofB m) k:=by
    intro k
    induction k with
    | zero=>intro _;rfl
    | succ k ih=>
     intro hk
     rw[beB,beB,ih (by omega)]
     congr 2
     have e:a*256^m.length=256^k*(256*(a*256^(m.length-(k+1)))):=by
      have:256^m.length=256^k*256*256^(m.length-(k+1)):=by
       rw[←Nat.pow_succ,←Nat.pow_add];congr 1;omega
      rw[this]
      simp only[Nat.mul_assoc,Nat.mul_left_comm a]
     rw[e,Nat.mul_add_div (Nat.pow_pos (by decide)),Nat.mul_add_mod]
   exact h _ (Nat.le_refl _)
  rw[ofB_cons,List.length_cons,beB,key,beB_ofB l]
  congr 1
  have hl:=ofB_lt l
  have hp:0<256^l.length:=Nat.pow_pos (by decide)
  rw[Nat.mul_comm,Nat.mul_add_div hp,Nat.div_eq_of_lt hl,Nat.add_zero,Nat.mod_eq_of_lt c.toNat_lt]
  simp[Nat.toUInt8]
def at4 (t:Int):Nat:=(max 0 (min t 4294967295)).toNat
def u64 (n:Int):Nat:=(n%18446744073709551616).toNat
def i64 (n:Nat):Int:=if n<9223372036854775808 then (n:Int) else (n:Int)-18446744073709551616
def encP (t n:Int):List UInt8:=beB (at4 t) 4++beB (u64 n) 8
theorem encP_len (t n:Int):(encP t n).length=12:=by rw[encP,List.length_append,beB_len,beB_len]
def decT (l:List UInt8):Int:=(ofB (l.take 4):Nat)
def decN (l:List UInt8):Int:=i64 (ofB (l.drop 4))
theorem u64_lt (n:Int):u64 n<18446744073709551616:=by unfold u64;omega
theorem decT_enc (t n:Int):decT (encP t n)=(at4 t:Nat):=by
 unfold decT encP
 rw[List.take_left' (beB_len _ _),ofB_beB]
 have:at4 t<256^4:=by
  have e:(256:Nat)^4=4294967296:=by decide
  rw[e]
  unfold at4
  omega
 rw[Nat.mod_eq_of_lt this]
def alignS (t step:Int):Int:=if step<1∨t<0 then t else t-t%step
def placeS (step count t:Int):Int:=if step<1∨count<1∨t<0 then 0 else t/step%count
theorem alignS_of {t step:Int} (h:1≤step) (h':0≤t):alignS t step=t-t%step:=by unfold alignS;rw[if_neg (by omega)]
theorem placeS_of {t step count:Int} (h:1≤step) (h1:1≤count) (h':0≤t):placeS step count t=t/step%count:=by unfold placeS;rw[if_neg (by omega)]
theorem placeS_lt {t step count:Int} (h1:1≤count):0≤placeS step count t∧placeS step count t<count:=by
 unfold placeS
 split
 ·
  omega
 ·
  exact ⟨Int.emod_nonneg _ (by omega),Int.emod_lt_of_pos _ (by omega)⟩
open Go
section
variable {P:Program} {ops:Array Oper} {C:World→Prop} {Q:Act→Prop} {o:Oper} {rest:List Oper} {a:Act}
theorem q_val {v:Value} (hw:Region.wanted o (yielded ops a.tmps)=true) (h:∀W,C W→(execOp a.eval o).run P W= .ok (.value v) W) (hr:wpQuiet P ops C Q rest (a.put o.dst v)) :
  wpQuiet P ops C Q (o::rest) a:=by
 unfold wpQuiet
 rw[if_pos hw]
 exact ⟨v,fun W hW=>by unfold Oper.quietAt;rw[h W hW];exact ⟨rfl,rfl⟩,hr⟩
theorem qv {v:Value} (hr:wpQuiet P ops C Q rest (a.put o.dst v)) (hw:Region.wanted o (yielded ops a.tmps)=true:=by rfl) (h:∀W,C W→(execOp a.eval o).run P W= .ok (.value v) W:=by intro W hW;go_simp;rfl):wpQuiet P ops C Q (o::rest) a:=q_val hw h hr
theorem q_call {v:Value} {f:FuncId} {args:Array Value} (hw:Region.wanted o (yielded ops a.tmps)=true) (h:∀W,C W→(execOp a.eval o).run P W= .ok (.enter f args) W)
  (hc:∀W,C W→Calls P f args W fun e w'=>e= .returned v∧C w') (hr:wpQuiet P ops C Q rest (a.put o.dst v)):wpQuiet P ops C Q (o::rest) a:=by
 unfold wpQuiet
 rw[if_pos hw]
 exact ⟨v,fun W hW=>by unfold Oper.quietAt;rw[h W hW];exact ⟨rfl,hc W hW⟩,hr⟩
theorem q_skip (hw:Region.wanted o (yielded ops a.tmps)=false) (hr:wpQuiet P ops C Q rest (a.put o.dst undef)):wpQuiet P ops C Q (o::rest) a:=by
 unfold wpQuiet
 rw[if_neg (by rw[hw];decide)]
 exact hr
theorem qs (hr:wpQuiet P ops C Q rest (a.put o.dst undef)) (hw:Region.wanted o (yielded ops a.tmps)=false:=by rfl):wpQuiet P ops C Q (o::rest) a:=q_skip hw hr
theorem region_Q {id:Nat} {R:Exit→Act→World→Prop} {w:World} {l:List Oper} (hm:P.follows .mixedOrders=true) (hB:Region.lexB .any l.toArray=true)
  (h:wpQuiet P l.toArray (fun W=>Gr w W) (fun a'=>∀w',Gr w w'→R .normal a' w') l a):(Code.region id l.toArray true).wp P R a w:=
 wp_region_quiet (C:=fun W=>Gr w W) hm hB (Gr.drew (Gr.refl w)) (by simpa using h)
end
theorem emod_le' {t step:Int} (h:0≤t) (h1:1≤step):t%step≤t:=by
 have e:=Int.emod_add_mul_ediv t step
 have:=Int.mul_nonneg (show 0≤step by omega) (Int.ediv_nonneg h (show 0≤step by omega))
 omega
theorem align_any (t step:Int) (ht:t≤9223372036854775807) (w:World):Calls Tryz.prog 74 #[.int .i64 t, .int .i64 step] w fun e w'=>e= .returned (.int .i64 (alignS t step))∧w=w':=by
 by_cases h1:step<1
 ·
  have e:alignS t step=t:=by unfold alignS;rw[if_pos (.inl h1)]
  rw[e]
  go_enter Tryz.func74,Tryz.ntmps74
  go_wp2
  go_ret
  exact ⟨rfl,rfl⟩
 ·
  by_cases h2:t<0
  ·
   have e:alignS t step=t:=by unfold alignS;rw[if_pos (.inr h2)]
   rw[e]
   go_enter Tryz.func74,Tryz.ntmps74
   go_wp2
   go_ret
   exact ⟨rfl,rfl⟩
  ·
   have e:alignS t step=t-t%step:=alignS_of (by omega) (by omega)
   have hm:t.tmod step=t%step:=Int.tmod_eq_emod_of_nonneg (by omega)
   have h3:0≤t%step:=Int.emod_nonneg _ (by omega)
   have h4:t%step≤t:=emod_le' (by omega) (by omega)
   have hz:¬step=0:=by omega
   have hw:wrap64 (t-t%step)=t-t%step:=IntWalk.wrap64_in _ (by omega)
   rw[e]
   go_enter Tryz.func74,Tryz.ntmps74
   go_wp2
   go_ret
   exact ⟨rfl,rfl⟩
theorem place_any (step count t:Int) (ht:t≤9223372036854775807) (hs:step≤9223372036854775807) (hc:count≤9223372036854775807) (w:World):Calls Tryz.prog 107 #[.agg #[.int .i64 step, .int .i64 count], .int .i64 t] w fun e w'=>e= .returned (.int .i64 (placeS step count t))∧Gr w w':=by
 by_cases h1:step<1
 ·
  have e:placeS step count t=0:=by unfold placeS;rw[if_pos (.inl h1)]
  rw[e]
  go_enter Tryz.func107,Tryz.ntmps107
  go_wp2
  go_ret
  exact ⟨rfl,Gr.alloc (Gr.refl w) _⟩
 ·
  by_cases h2:count<1
  ·
   have e:placeS step count t=0:=by unfold placeS;rw[if_pos (.inr (.inl h2))]
   rw[e]
   go_enter Tryz.func107,Tryz.ntmps107
   go_wp2
   go_ret
   exact ⟨rfl,Gr.alloc (Gr.refl w) _⟩
  ·
   by_cases h3:t<0
   ·
    have e:placeS step count t=0:=by unfold placeS;rw[if_pos (.inr (.inr h3))]
    rw[e]
    go_enter Tryz.func107,Tryz.ntmps107
    go_wp2
    go_ret
    exact ⟨rfl,Gr.alloc (Gr.refl w) _⟩
   ·
    have e:placeS step count t=t/step%count:=placeS_of (by omega) (by omega) (by omega)
    have hd:t.tdiv step=t/step:=Int.tdiv_eq_ediv_of_nonneg (by omega)
    have hq:0≤t/step:=Int.ediv_nonneg (by omega) (by omega)
    have hm:(t/step).tmod count=t/step%count:=Int.tmod_eq_emod_of_nonneg hq
    have hz:¬step=0:=by omega
    have hzc:¬count=0:=by omega
    have hle:t/step≤t:=Int.ediv_le_self _ (by omega)
    have hw1:IntKind.i64.wrap (t/step)=t/step:=IntWalk.i64_in _ (by omega)
    have hr0:0≤t/step%count:=Int.emod_nonneg _ (by omega)
    have hr1:t/step%count<count:=Int.emod_lt_of_pos _ (by omega)
    have hw2:IntKind.i64.wrap (t/step%count)=t/step%count:=IntWalk.i64_in _ (by omega)
    rw[e]
    go_enter Tryz.func107,Tryz.ntmps107
    go_upto_region 3 with (fail)
    have b0:(w.alloc (.cells #[.int .i64 step, .int .i64 count] 69)).cell? ⟨w.heap.size,0,none⟩=some (.int .i64 step):=by go_simp
    have b1:(w.alloc (.cells #[.int .i64 step, .int .i64 count] 69)).cell? ⟨w.heap.size,1,none⟩=some (.int .i64 count):=by go_simp
    refine region_Q (by kernel_rfl) (by kernel_rfl) ?_
    iterate 2 (refine qv ?_;simp only[Pu])
    refine q_val (v:=?qv3) (by rfl) (fun W hW=>?qh3) ?qr3
    case qh3=>have g:=(Below.cell hW (p:=⟨w.heap.size,0,none⟩) (by show w.heap.size<_;simp)).trans b0;go_simp;rfl
    simp only[Pu]
    iterate 2 (refine qv ?_;simp only[Pu])
    refine q_val (v:=?qv6) (by rfl) (fun W hW=>?qh6) ?qr6
    case qh6=>have g:=(Below.cell hW (p:=⟨w.heap.size,1,none⟩) (by show w.heap.size<_;simp)).trans b1;go_simp;rfl
    simp only[Pu]
    iterate 2 (refine qv ?_;simp only[Pu])
    refine wpQuiet_nil ?_
    intro w8 hw8
    have g8:Gr w w8:=(Gr.alloc (Gr.refl w) _).trans hw8
    clear hw8 b0 b1
    go_wp2
    go_ret
    exact ⟨rfl,g8⟩
theorem ints_at (l:List (Nat×Nat)) (k:Nat) (h:k<l.length) {h':k<(ints l).length}:(ints l)[k]=((l[k].1:Int),(l[k].2:Int)):=by simp[ints]
theorem whead_size (ag xf:Int) (A:Option Addr) (c:Nat) (l:List (Nat×Nat)) (hl:l.length≤8) (h2:∀a∈l,a.2≤16777216) (w:World) (hr:Ri w A (ints l)):Calls Tryz.prog 70 #[.agg #[.int .i64 ag, .int .i64 xf, .slice A l.length c]] w fun e w'=>e= .returned (.int .i64 (sizeS l:Nat))∧Gr w w':=by
 have hli:(l.length:Int)≤8:=by omega
 obtain ⟨V,hV⟩:∃V,V=w.alloc (.cells #[.int .i64 ag, .int .i64 xf, .slice A l.length c] 24):=⟨_,rfl⟩
 have gV:Gr w V:=by rw[hV];exact Gr.alloc (Gr.refl w) _
 have hz:w.heap.size<V.heap.size:=by rw[hV];simp
 have c2:V.cell? ⟨w.heap.size,2,none⟩=some (.slice A l.length c):=by rw[hV];go_simp
 have HV:=Lib.hid hV
 have HG:=Lib.hid gV
 have HR:=Lib.hid (hr.gr gV)
 have HB:=Lib.hid (And.intro hl h2)
 clear hV gV hr hl h2
 go_enter Tryz.func70,Tryz.ntmps70
 go_upto_region 1 with (fail)
 rw[←HV.out]
 clear HV
 go_wp2
 go_loopw [9,3] (fun i n wr=>∃k:Nat,k≤l.length∧i= .int .i64 k∧n= .int .i64 (sizeS (l.take k):Nat)∧Gr V wr) (fun i _ _=>l.length-(intOf i).toNat)
 case atStart=>exact ⟨0,Nat.zero_le _,rfl,rfl,Gr.refl _⟩
 case round=>
  obtain ⟨k,hk,rfl,rfl,hgr⟩:=hrel
  by_cases hlt:k<l.length
  ·
   have hlt':(k:Int)<(l.length:Int):=by omega
   obtain ⟨ad,rfl,hb,hc⟩:=(HR.out.gr hgr) (by rw[ints_len];omega)
   obtain ⟨d0,d1⟩:=hc k (by rw[ints_len];exact hlt)
   rw[ints_at l k hlt] at d0 d1
   simp only at d0 d1
   have hs:=sizeS_take hlt
   have hb1:=HB.out.2 l[k] (List.getElem_mem hlt)
   have hb2:=sizeS_bound (l.take (k+1)) (fun a ha=>HB.out.2 a (List.mem_of_mem_take ha))
   rw[List.length_take,Nat.min_eq_left (by omega)] at hb2
   have HS:=Lib.hid hs
   have Hgr:=Lib.hid hgr
   generalize l[k].1=x1 at *
   generalize l[k].2=x2 at *
   obtain ⟨N,hN⟩:∃N,N=sizeS (l.take k):=⟨_,rfl⟩
   rw[←hN] at HS ⊢
   have hNi:(N:Int)+(12+12*(x2:Int))≤2000000000:=by have:=HS.out;omega
   have hx2:(x2:Int)≤16777216:=by omega
   clear hc hs hb1 hb2 hgr hN
   go_wp2
   go_roundw
   case rel=>exact ⟨k+1,by omega,by go_num,by rw[HS.out];go_num,gq⟩
   case measure=>simp[intOf];omega
  ·
   have hkk:k=l.length:=by omega
   subst hkk
   have HK:=Lib.hid hgr
   clear hgr
   go_wp2
   go_ret
   exact ⟨ret_i (by rw[List.take_length]),HG.out.trans HK.out⟩
structure WQ (P:Program) (ops:Array Oper) (C:World→Prop) (Q:Act→Prop) (l:List Oper) (a:Act):Prop where
 out:wpQuiet P ops C Q l a
section
variable {P:Program} {ops:Array Oper} {C:World→Prop} {Q:Act→Prop} {o:Oper} {rest:List Oper} {a:Act}
theorem r_val {v:Value} (hw:Region.wanted o (yielded ops a.tmps)=true) (h:∀W,C W→(execOp a.eval o).run P W= .ok (.value v) W) (hr:WQ P ops C Q rest (a.put o.dst v)) :
  WQ P ops C Q (o::rest) a:=⟨q_val hw h hr.out⟩
theorem r_call {v:Value} {f:FuncId} {args:Array Value} (hw:Region.wanted o (yielded ops a.tmps)=true) (h:∀W,C W→(execOp a.eval o).run P W= .ok (.enter f args) W)
  (hc:∀W,C W→Calls P f args W fun e w'=>e= .returned v∧C w') (hr:WQ P ops C Q rest (a.put o.dst v)):WQ P ops C Q (o::rest) a:=⟨q_call hw h hc hr.out⟩
theorem r_skip (hw:Region.wanted o (yielded ops a.tmps)=false) (hr:WQ P ops C Q rest (a.put o.dst undef)):WQ P ops C Q (o::rest) a:=⟨q_skip hw hr.out⟩
theorem rv {v:Value} (hr:WQ P ops C Q rest (a.put o.dst v)) (hw:Region.wanted o (yielded ops a.tmps)=true:=by kernel_rfl) (h:∀W,C W→(execOp a.eval o).run P W= .ok (.value v) W:=by intro W hW;go_light;go_simp;rfl):WQ P ops C Q (o::rest) a:=r_val hw h hr
theorem rs (hr:WQ P ops C Q rest (a.put o.dst undef)) (hw:Region.wanted o (yielded ops a.tmps)=false:=by kernel_rfl):WQ P ops C Q (o::rest) a:=r_skip hw hr
theorem r_nil (h:Q a):WQ P ops C Q [] a:=⟨wpQuiet_nil h⟩
theorem region_R {id:Nat} {R:Exit→Act→World→Prop} {w:World} {l:List Oper} (hm:P.follows .mixedOrders=true) (hB:Region.lexB .any l.toArray=true)
  (h:WQ P l.toArray (fun W=>Gr w W) (fun a'=>∀w',Gr w w'→R .normal a' w') l a):(Code.region id l.toArray true).wp P R a w:=region_Q hm hB h.out
end
end Go.Proofs.YtoncapkmaeghfaaGreat
