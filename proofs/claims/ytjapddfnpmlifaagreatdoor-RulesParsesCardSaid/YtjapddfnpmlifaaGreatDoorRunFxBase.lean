import Derived.WalkKit
import Derived.WalkSpells
import Derived.WalkLawsBesides
import Derived.Deep.Quiet
import Derived.Deep.Light
import Derived.Maps.AppendAt
import Derived.OwnWalk
import Derived.Lib.Hide
import Derived.OrdersHeld
import Derived.Deep.RegionHeld
import Derived.StillTail
import Derived.Great.BuildSlice
import Derived.Test.YtjapddfnpmlifaaGreatDoorProg
import Derived.Deep.RegionHeld3
import Derived.Test.YtjapddfnpmlifaaGreatDoorRows
import Derived.ProofKit
import Derived.Lib.SmallJoins
import Derived.Deep.SlicePairs
import Derived.Carry
import Derived.ShutString
set_option linter.all false
set_option maxRecDepth 1000000
set_option maxHeartbeats 12800000
namespace Go.Proofs.YtjapddfnpmlifaaGreatDoor
open Go.RowKit
def Gr (w w':World):Prop:=Below w.heap.size w w'
theorem Gr.refl (w:World):Gr w w:=Below.refl _ _
theorem Gr.size {a w:World} (h:Gr a w):a.heap.size<=w.heap.size:=Below.size h
theorem Gr.alloc {a w:World} (h:Gr a w) (o:Obj):Gr a (w.alloc o):=Below.alloc h h.size o
theorem Gr.drew {a w:World} (h:Gr a w):Gr a w.drew:=Below.drew h
theorem Gr.setCell {a w:World} (h:Gr a w) {p:Addr} (hp:a.heap.size<=p.block) (u:Value):Gr a (w.setCell p u):=Below.setCell h hp u
theorem Gr.trans {a b c:World} (h:Gr a b) (k:Gr b c):Gr a c:=Below.trans h (Below.mono k h.size)
theorem gq {a b:World} (h:Gr a b:=by repeat (first|exact Gr.refl _|refine Gr.alloc ?_ _|refine Gr.drew ?_|refine Gr.setCell ?_ (by first|(simp;done)|(simp;omega)|omega) _|refine Gr.trans ?_ (by assumption))):Gr a b:=h
theorem Gr.cells {W w1:World} (hb:Gr W w1):(∀b o,b<W.heap.size->w1.cell? ⟨b,o,none⟩=W.cell? ⟨b,o,none⟩)/\(∀b o,b<W.heap.size->w1.frozen? ⟨b,o,none⟩=W.frozen? ⟨b,o,none⟩):=
 ⟨λb o h=>Below.cell hb (p:=⟨b,o,none⟩) h,λb o h=>Below.frozen hb (p:=⟨b,o,none⟩) h⟩
structure Vl where
 ok:Bool
 n:Int
def isB (a:Vl):Bool:=bif a.ok then (decide (-4611686018427387904<=a.n)&&decide (a.n<=4611686018427387904)) else a.n==0
def knB (a:Vl):Bool:=a.ok&&isB a
def ofV (n:Int):Vl:=bif isB ⟨true,n⟩ then ⟨true,n⟩ else ⟨false,0⟩
def intV (n:Int):Vl:=bif decide (-4611686018427<=n)&&decide (n<=4611686018427) then ofV (n*1000000) else ⟨false,0⟩
def lessB (a b:Vl):Bool:=knB a&&knB b&&decide (a.n<b.n)
theorem ofV_in {n:Int} (h: -4611686018427387904<=n) (h':n<=4611686018427387904):ofV n=⟨true,n⟩:=by simp[ofV,isB,h,h']
theorem ofV_hi {n:Int} (h:4611686018427387904<n):ofV n=⟨false,0⟩:=by
 have:¬n<=4611686018427387904:=by omega
 simp[ofV,isB,this]
theorem ofV_lo {n:Int} (h:n < -4611686018427387904):ofV n=⟨false,0⟩:=by
 have:¬ -4611686018427387904<=n:=by omega
 simp[ofV,isB,this]
theorem Pu:(∀(t:Array Value) (f:List Deferred) (d:Tmp) (v:Value),Act.put ⟨t,f⟩ (some d) v=⟨t.setIfInBounds d v,f⟩)/\(∀(a:Act) (v:Value),a.put none v=a)/\(∀(l:List Value) (i:Nat) (x:Value),l.toArray.setIfInBounds i x=(l.set i x).toArray)
 /\ (∀(x y:Value) (l:List Value),(x::l).set 0 y=y::l)/\(∀(x y:Value) (l:List Value) (n:Nat),(x::l).set (n+1) y=x::l.set n y):=
 ⟨λ_ _ _ _=>rfl,λ_ _=>rfl,λl i x=>List.setIfInBounds_toArray l i x,λ_ _ _=>rfl,λ_ _ _ _=>rfl⟩
theorem Gl:(∀{α:Type} (l:List α) (i:Nat) (h:i<l.toArray.size),l.toArray[i]=l[i]'(by simpa using h))/\(∀{α:Type} (a:α) (l:List α) (i:Nat) (h:i+1<(a::l).length),(a::l)[i+1]=l[i]'(Nat.lt_of_succ_lt_succ h))/\∀{α:Type} (a:α) (l:List α) (h:0<(a::l).length),(a::l)[0]=a:=⟨λ_ _ _=>rfl,λ_ _ _ _=>rfl,λ_ _ _=>rfl⟩
theorem bc {w w':World} {b j:Nat} {v:Option Value} (g:Gr w w') (h:b<w.heap.size) (e:w.cell? ⟨b,j,none⟩=v):w'.cell? ⟨b,j,none⟩=v:=(Below.cell g (p:=⟨b,j,none⟩) h).trans e
theorem bf {w w':World} {b j:Nat} {v:Bool} (g:Gr w w') (h:b<w.heap.size) (e:w.frozen? ⟨b,j,none⟩=v):w'.frozen? ⟨b,j,none⟩=v:=(Below.frozen g (p:=⟨b,j,none⟩) h).trans e
open Go
section
variable {P:Program} {ops:Array Oper} {C:World->Prop} {Q:Act->Prop} {o:Oper} {rest:List Oper} {a:Act}
theorem q_val {v:Value} (hw:Region.wanted o (yielded ops a.tmps)=true) (h:∀W,C W->(execOp a.eval o).run P W= .ok (.value v) W) (hr:wpQuiet P ops C Q rest (a.put o.dst v)) :
  wpQuiet P ops C Q (o::rest) a:=by
 unfold wpQuiet;rw[if_pos hw];exact ⟨v,λW hW=>by unfold Oper.quietAt;rw[h W hW];exact ⟨rfl,rfl⟩,hr⟩
theorem qv {v:Value} {a':Act} (hr:wpQuiet P ops C Q rest a') (hw:Region.wanted o (yielded ops a.tmps)=true:=by rfl) (h:∀W,C W->(execOp a.eval o).run P W= .ok (.value v) W:=by intro W hW;go_simp<;>rfl) (ha:a.put o.dst v=a':=by first|(simp only[Pu];done)|(simp only[Pu];rfl)|rfl):wpQuiet P ops C Q (o::rest) a:=by subst ha;exact q_val hw h hr
theorem q_call {v:Value} {f:FuncId} {args:Array Value} (hw:Region.wanted o (yielded ops a.tmps)=true) (h:∀W,C W->(execOp a.eval o).run P W= .ok (.enter f args) W)
  (hc:∀W,C W->Calls P f args W λe w'=>e= .returned v/\C w') (hr:wpQuiet P ops C Q rest (a.put o.dst v)):wpQuiet P ops C Q (o::rest) a:=by
 unfold wpQuiet;rw[if_pos hw];exact ⟨v,λW hW=>by unfold Oper.quietAt;rw[h W hW];exact ⟨rfl,hc W hW⟩,hr⟩
theorem q_skip (hw:Region.wanted o (yielded ops a.tmps)=false) (hr:wpQuiet P ops C Q rest (a.put o.dst undef)):wpQuiet P ops C Q (o::rest) a:=by
 unfold wpQuiet;rw[if_neg (by rw[hw];decide)];exact hr
theorem region_Q {id:Nat} {R:Exit->Act->World->Prop} {w:World} {l:List Oper} (hm:P.follows .mixedOrders=true) (hB:Region.lexB .any l.toArray=true)
  (h:wpQuiet P l.toArray (λW=>Gr w W) (λa'=>∀w',Gr w w'->R .normal a' w') l a):(Code.region id l.toArray true).wp P R a w:=
 wp_region_quiet (C:=λW=>Gr w W) hm hB (Gr.drew (Gr.refl w)) (by simpa using h)
end
structure WQ (P:Program) (ops:Array Oper) (C:World->Prop) (Q:Act->Prop) (l:List Oper) (a:Act):Prop where
 out:wpQuiet P ops C Q l a
section
variable {P:Program} {ops:Array Oper} {C:World->Prop} {Q:Act->Prop} {o:Oper} {rest:List Oper} {a:Act}
theorem r_val {v:Value} (hw:Region.wanted o (yielded ops a.tmps)=true) (h:∀W,C W->(execOp a.eval o).run P W= .ok (.value v) W) (hr:WQ P ops C Q rest (a.put o.dst v)) :
  WQ P ops C Q (o::rest) a:=⟨q_val hw h hr.out⟩
theorem r_call {v:Value} {f:FuncId} {args:Array Value} (hw:Region.wanted o (yielded ops a.tmps)=true) (h:∀W,C W->(execOp a.eval o).run P W= .ok (.enter f args) W)
  (hc:∀W,C W->Calls P f args W λe w'=>e= .returned v/\C w') (hr:WQ P ops C Q rest (a.put o.dst v)):WQ P ops C Q (o::rest) a:=⟨q_call hw h hc hr.out⟩
theorem r_skip (hw:Region.wanted o (yielded ops a.tmps)=false) (hr:WQ P ops C Q rest (a.put o.dst undef)):WQ P ops C Q (o::rest) a:=⟨q_skip hw hr.out⟩
theorem rv {v:Value} {a':Act} (hr:WQ P ops C Q rest a') (hw:Region.wanted o (yielded ops a.tmps)=true:=by kernel_rfl) (h:∀W,C W->(execOp a.eval o).run P W= .ok (.value v) W:=by intro W hW;go_light;go_simp<;>rfl) (ha:a.put o.dst v=a':=by first|(simp only[Pu];done)|(simp only[Pu];rfl)|rfl):WQ P ops C Q (o::rest) a:=by subst ha;exact r_val hw h hr
theorem rs {a':Act} (hr:WQ P ops C Q rest a') (hw:Region.wanted o (yielded ops a.tmps)=false:=by kernel_rfl) (ha:a.put o.dst undef=a':=by first|(simp only[Pu];done)|(simp only[Pu];rfl)|rfl):WQ P ops C Q (o::rest) a:=by subst ha;exact r_skip hw hr
theorem rc {w:World} {f:FuncId} {args:Array Value} {a':Act} (v:Value) (hc:∀W,Gr w W->Calls P f args W λe w'=>e= .returned v/\Gr W w') (hr:WQ P ops (λW=>Gr w W) Q rest a') (hw:Region.wanted o (yielded ops a.tmps)=true:=by kernel_rfl) (h:∀W,Gr w W->(execOp a.eval o).run P W= .ok (.enter f args) W:=by intro W hW;go_light;go_simp<;>constructor<;>rfl) (ha:a.put o.dst v=a':=by first|(simp only[Pu];done)|(simp only[Pu];rfl)|rfl):WQ P ops (λW=>Gr w W) Q (o::rest) a:=by subst ha;exact r_call hw h (λW hW=>(hc W hW).mono λe w' k=>⟨k.1,Gr.trans hW k.2⟩) hr
theorem r_nil (h:Q a):WQ P ops C Q [] a:=⟨wpQuiet_nil h⟩
theorem region_R {id:Nat} {R:Exit->Act->World->Prop} {w:World} {l:List Oper} (hm:P.follows .mixedOrders=true) (hB:Region.lexB .any l.toArray=true)
  (h:WQ P l.toArray (λW=>Gr w W) (λa'=>∀w',Gr w w'->R .normal a' w') l a):(Code.region id l.toArray true).wp P R a w:=region_Q hm hB h.out
end
theorem add_blk (a:Addr) (n:Nat):(a.add n).block=a.block:=by unfold Addr.add;split<;>rfl
theorem add_two (a:Addr) (i j:Nat):(a.add i).add j=a.add (i+j):=by
 unfold Addr.add;rcases Nat.eq_zero_or_pos i with hi|hi<;>rcases Nat.eq_zero_or_pos j with hj|hj
 ·simp[hi,hj]
 ·simp[hi,Nat.ne_of_gt hj]
 ·simp[hj]
 ·simp[Nat.ne_of_gt hi,Nat.ne_of_gt hj,Nat.add_assoc]
theorem add_next (a:Addr) (i j:Nat):a.add (i+(j+1))=⟨(a.add i).block,(a.add i).off+(j+1),none⟩:=by
 rw[<-add_two];rfl
def Rd (w:World) (size:Nat) (A:Option Addr) (n:Nat) (xs:List Value):Prop:=
 xs.length=n*size/\(0<n->∃ad,A=some ad/\ad.block<w.heap.size/\∀j u,xs[j]?=some u->w.cell? (ad.add j)=some u)
theorem Rd.nil (w:World) (size:Nat) (A:Option Addr):Rd w size A 0 []:=⟨by simp,λh=>absurd h (by omega)⟩
theorem Gr.cell {w w':World} (h:Gr w w') {p:Addr} (hp:p.block<w.heap.size):w'.cell? p=w.cell? p:=Below.cell h hp
theorem Gr.frozen {w w':World} (h:Gr w w') {p:Addr} (hp:p.block<w.heap.size):w'.frozen? p=w.frozen? p:=Below.frozen h hp
theorem Rd.gr {w w':World} {size n:Nat} {A:Option Addr} {xs:List Value} (h:Rd w size A n xs) (g:Gr w w'):Rd w' size A n xs:=
 ⟨h.1,λhn=>by
  obtain ⟨ad,e,hb,hc⟩:=h.2 hn;exact ⟨ad,e,Nat.lt_of_lt_of_le hb g.size,λj u hu=>(g.cell (by rw[add_blk];exact hb)).trans (hc j u hu)⟩⟩
def vcells (l:List Vl):List Value:=l.flatMap λv=>[.bool v.ok, .int .i64 v.n]
theorem vcells_cons (v:Vl) (l:List Vl):vcells (v::l)= .bool v.ok :: .int .i64 v.n::vcells l:=rfl
theorem vcells_at (l:List Vl):∀(k:Nat) (h:k<l.length),(vcells l)[k*2]?=some (.bool l[k].ok)/\(vcells l)[k*2+1]?=some (.int .i64 l[k].n):=by
 induction l with
 | nil=>intro k h;simp at h
 | cons v l ih=>
  intro k h;rw[vcells_cons];match k,h with
  | 0,_=>exact ⟨rfl,rfl⟩
  | k+1,h=>
   have hk:k<l.length:=by simp only[List.length_cons] at h;omega
   have e:(k+1)*2=k*2+1+1:=by omega
   rw[e];simp only[List.getElem?_cons_succ,List.getElem_cons_succ];exact ih k hk
def Rv (w:World) (A:Option Addr) (l:List Vl):Prop:=Rd w 2 A l.length (vcells l)
theorem Rv.nil (w:World) (A:Option Addr):Rv w A []:=Rd.nil w 2 A
theorem Rv.gr {w w':World} {A:Option Addr} {l:List Vl} (h:Rv w A l) (g:Gr w w'):Rv w' A l:=Rd.gr h g
theorem Rv.at {w:World} {A:Option Addr} {l:List Vl} (h:Rv w A l) {k:Nat} (hk:k<l.length) :
  ∃ad:Addr,A=some ad/\ad.block<w.heap.size/\w.cell? (ad.add (k*2))=some (.bool l[k].ok)/\w.cell? ⟨(ad.add (k*2)).block,(ad.add (k*2)).off+1,none⟩=some (.int .i64 l[k].n):=by
 obtain ⟨ad,e,hb,hc⟩:=h.2 (by omega);exact ⟨ad,e,hb,hc _ _ (vcells_at l k hk).1,(congrArg w.cell? (add_next ad (k*2) 0)).symm.trans (hc _ _ (vcells_at l k hk).2)⟩
section
variable {P:Program} {w:World}
theorem append_nil_run (base:Nat) (t ty e:TypeId) (i:TypeInfo) (size:Nat) (ht:P.underlying t=some (.slice e)) (hi:P.info? e=some i)
  {v:Value} {n:Nat} {xs:List Value} (hown:w.ownsRow base e size v n xs) (c:Nat):(Builtin.append_ #[t,t] ty #[v, .slice none 0 c]).run P w= .ok v w:=by
 obtain ⟨_,⟨hv,_⟩|⟨g,cap,cur,hv,_,_,hnc,_⟩⟩:=hown<;>subst hv
 ·simp[Builtin.append_,run_underlying ht,sizeOf,typeInfo,hi,Builtin.lenOf,Builtin.firstCells]
 ·simp[Builtin.append_,run_underlying ht,sizeOf,typeInfo,hi,Builtin.lenOf,Builtin.firstCells,hnc,storeCells]
theorem wpList_append_rd {ops:Array Oper} {rest:List Oper} {o:Oper} {a:Act} {Q:Exit->Act->World->Prop} (hgd:o.guard=none) (s x:Operand) (t:TypeId)
  (ho:o.op= .call {callee:= .builtin .append,args:= #[s,x],argTypes:= #[t,t]})
  (base:Nat) (e:TypeId) (i:TypeInfo) (z:Value) (size bytes:Nat) (ht:P.underlying t=some (.slice e)) (hi:P.info? e=some i) (hz:i.zero=some z)
  (hsize:i.size=size) (hby:i.bytes=bytes) (hzs:z.cells.size=size) (hsz:0<size)
  (v:Value) (n:Nat) (xs:List Value) (hs:a.eval s=v) (hown:w.ownsRow base e size v n xs)
  (A:Option Addr) (m c:Nat) (news:List Value) (hx:a.eval x= .slice A m c) (hr:Rd w size A m news) (h1:∀u∈news,u.oneCell'=true)
  (h63:n+m<=maxLen) (hbytes:(n+m)*bytes<=140737488355328) (hbase:base<=w.heap.size)
  (h:∀v' w',w'.ownsRow base e size v' (n+m) (xs++news)->w.grownBy w' v.ownBlock->(v'.ownBlock=v.ownBlock\/v'.ownBlock=some w.heap.size)->wpList P ops Q rest (a.put o.dst v') w'):wpList P ops Q (o::rest) a w:=by
 have hrun:∃v' w',(Builtin.append_ #[t,t] o.type #[v, .slice A m c]).run P w= .ok v' w'/\w'.ownsRow base e size v' (n+m) (xs++news)/\w.grownBy w' v.ownBlock/\(v'.ownBlock=v.ownBlock\/v'.ownBlock=some w.heap.size):=by
  rcases Nat.eq_zero_or_pos m with hm|hm
  ·subst hm;have hn:news=[]:=List.eq_nil_of_length_eq_zero (by simpa using hr.1);subst hn;cases A with
   | none=>exact ⟨v,w,append_nil_run base t o.type e i size ht hi hown c,by simpa using hown,World.grownBy.refl w _, .inl rfl⟩
   | some ad=>
    obtain ⟨v',w',k1,k2,k3,_,k5⟩:=run_append_own_at (P:=P) w base t o.type e i z size bytes ht hi hz hsize hby hzs hsz v n xs hown ad 0 c [] (by simp) (by intro j u hu;simp at hu) (by intro u hu;simp at hu) h63 hbytes hbase;exact ⟨v',w',k1,k2,k3,k5⟩
  ·obtain ⟨ad,rfl,_,hc⟩:=hr.2 hm;obtain ⟨v',w',k1,k2,k3,_,k5⟩:=run_append_own_at (P:=P) w base t o.type e i z size bytes ht hi hz hsize hby hzs hsz v n xs hown ad m c news hr.1 hc h1 h63 hbytes hbase;exact ⟨v',w',k1,k2,k3,k5⟩
 obtain ⟨v',w',hr1,h2,h3,h4⟩:=hrun;refine wpList_plain hgd λK hK=>?_;unfold Oper.wp execOp;simp only[ho,resolve,invoke,builtin,Sem.run_bind,Sem.run_pure,Result.andThen_ok,List.map_toArray,List.map_cons,List.map_nil,hs,hx,hr1];exact hK _ _ (h v' w' h2 h3 h4)
end
theorem Rd.own {w:World} {base:Nat} {e:TypeId} {size n c:Nat} {A:Option Addr} {xs:List Value} (h:w.ownsRow base e size (.slice A n c) n xs):Rd w size A n xs:=by
 refine ⟨h.1,λhn=>?_⟩;have h':=h;obtain ⟨_,⟨hv,h0⟩|⟨g,cap,cur,hv,_,hh,_,_,_,_⟩⟩:=h'
 ·omega
 ·have hA:A=some ⟨g,0,none⟩:=by injection hv
  subst hA;refine ⟨_,rfl,?_,h.cells (g:=g) rfl⟩;rcases Nat.lt_or_ge g w.heap.size with hlt|hge
  ·exact hlt
  ·rw[Array.getElem?_eq_none hge] at hh;cases hh
theorem own_form {w:World} {base:Nat} {e:TypeId} {size n:Nat} {v:Value} {xs:List Value} (h:w.ownsRow base e size v n xs):∃A c,v= .slice A n c:=by
 obtain ⟨_,⟨hv,h0⟩|⟨g,cap,cur,hv,_⟩⟩:=h
 ·subst h0;exact ⟨none,0,hv⟩
 ·exact ⟨_,_,hv⟩
theorem Gr.grown {w0 w w':World} {row:Option Nat} (h:Gr w0 w) (hg:w.grownBy w' row) (hr:∀k,row=some k->w0.heap.size<=k):Gr w0 w':=Below.grown h hg h.size hr
theorem own_grU {w w':World} {base:Nat} {e:TypeId} {size n:Nat} {v:Value} {xs:List Value} (h:w.ownsRow base e size v n xs) (g:Gr w w'):w'.ownsRow base e size v n xs:=by
 obtain ⟨h1,⟨hv,h0⟩|⟨g',cap,cur,hv,hb,hh,h2⟩⟩:=h
 ·exact ⟨h1, .inl ⟨hv,h0⟩⟩
 ·refine ⟨h1, .inr ⟨g',cap,cur,hv,hb,?_,h2⟩⟩;have hlt:g'<w.heap.size:=by
   rcases Nat.lt_or_ge g' w.heap.size with hlt|hge
   ·exact hlt
   ·rw[Array.getElem?_eq_none hge] at hh;cases hh
  exact (Below.block g g' hlt).trans hh
theorem Rd.newU {W:World} {B size n:Nat} (hB:B=W.heap.size) (T:TypeId) (xs:List Value) (hl:xs.length=n*size):Rd (W.alloc (.cells xs.toArray T)) size (some ⟨B,0,none⟩) n xs:=by
 subst hB;refine ⟨hl,λ_=>⟨_,rfl,by simp,λj u hu=>?_⟩⟩;have e:(⟨W.heap.size,0,none⟩:Addr).add j=⟨W.heap.size,j,none⟩:=by
  unfold Addr.add;split
  ·rename_i h;subst h;rfl
  ·rw[Nat.zero_add]
 rw[e];exact (cell_of_row _ _ _ _ _ _ (heap_alloc_new W _)).trans (by simpa using hu)
theorem own_blockU {w:World} {base:Nat} {e:TypeId} {size n c:Nat} {A:Option Addr} {xs:List Value} (h:w.ownsRow base e size (.slice A n c) n xs) (h0:0<n):∃g,A=some ⟨g,0,none⟩/\base<=g/\g<w.heap.size/\∀j u,xs[j]?=some u->w.cell? ⟨g,j,none⟩=some u:=by
 have h':=h;obtain ⟨_,⟨hv,h0'⟩|⟨g,cap,cur,hv,hb,hh,_,_,_,_⟩⟩:=h'
 ·omega
 ·have hA:A=some ⟨g,0,none⟩:=by injection hv
  subst hA;refine ⟨g,rfl,hb,?_,λj u hu=>?_⟩
  ·rcases Nat.lt_or_ge g w.heap.size with hlt|hge
   ·exact hlt
   ·rw[Array.getElem?_eq_none hge] at hh;cases hh
  ·have:=h.cells (g:=g) rfl j u hu;have e:(⟨g,0,none⟩:Addr).add j=⟨g,j,none⟩:=by
    unfold Addr.add;split
    ·rename_i h;subst h;rfl
    ·rw[Nat.zero_add]
   first|exact this|(rw[e] at this;exact this)
theorem own_setU {w:World} {base:Nat} {e:TypeId} {size n:Nat} {v:Value} {xs:List Value} (h:w.ownsRow base e size v n xs) {p:Addr} (hp:p.block<base) (u:Value):(w.setCell p u).ownsRow base e size v n xs:=by
 obtain ⟨h1,⟨hv,h0⟩|⟨g',cap,cur,hv,hb,hh,h2⟩⟩:=h
 ·exact ⟨h1, .inl ⟨hv,h0⟩⟩
 ·exact ⟨h1, .inr ⟨g',cap,cur,hv,hb,(Below.heap_setCell w p u g' (by omega)).trans hh,h2⟩⟩
theorem info_parts {P:Program} {e:TypeId} {z:Value} {size bytes:Nat} (h:(P.info? e).map (λi=>(i.zero,i.size,i.bytes))=some (some z,size,bytes)):∃i0,P.info? e=some i0/\i0.zero=some z/\i0.size=size/\i0.bytes=bytes:=by
 cases hi:P.info? e with
 | none=>rw[hi] at h;cases h
 | some i=>
  rw[hi] at h;simp only[Option.map_some,Option.some.injEq,Prod.mk.injEq] at h;exact ⟨i,rfl,h.1,h.2.1,h.2.2⟩
structure GX (R:Nat) (w w':World):Prop where
 os:w'.os=w.os
 tape:w'.tape=w.tape
 output:w'.output=w.output
 size:w.heap.size<=w'.heap.size
 block:∀k,k<w.heap.size->k≠R->w'.heap[k]?=w.heap[k]?
theorem GX.refl (R:Nat) (w:World):GX R w w:=⟨rfl,rfl,rfl,Nat.le_refl _,λ_ _ _=>rfl⟩
theorem GX.trans {R:Nat} {a b c:World} (h:GX R a b) (k:GX R b c):GX R a c:=
 ⟨k.os.trans h.os,k.tape.trans h.tape,k.output.trans h.output,Nat.le_trans h.size k.size,λi hi hn=>(k.block i (Nat.lt_of_lt_of_le hi h.size) hn).trans (h.block i hi hn)⟩
theorem GX.of_gr {R:Nat} {w w':World} (h:Gr w w'):GX R w w':=⟨h.os,h.tape,h.output,h.size,λk hk _=>Below.block h k hk⟩
theorem GX.alloc {R:Nat} {a w:World} (h:GX R a w) (o:Obj):GX R a (w.alloc o):=h.trans (GX.of_gr (Gr.alloc (Gr.refl w) o))
theorem GX.drew {R:Nat} {a w:World} (h:GX R a w):GX R a w.drew:=h.trans (GX.of_gr (Gr.drew (Gr.refl w)))
theorem GX.drewN {R:Nat} {a w:World} (h:GX R a w) (n:Nat):GX R a (w.drewN n):=⟨h.os,h.tape,h.output,h.size,h.block⟩
theorem GX.setCell {R:Nat} {a w:World} (h:GX R a w) {p:Addr} (hp:p.block=R\/a.heap.size<=p.block) (u:Value):GX R a (w.setCell p u):=
 ⟨h.os,h.tape,h.output,Nat.le_trans h.size (by simp[World.setCell]),λk hk hn=>(Below.heap_setCell _ _ _ _ (by omega)).trans (h.block k hk hn)⟩
theorem GX.gr {R:Nat} {a w w':World} (h:Gr a w) (g:GX R w w') (hR:a.heap.size<=R):Gr a w':=
 ⟨g.os.trans h.os,g.tape.trans h.tape,g.output.trans h.output,Nat.le_trans h.size g.size,λk hk=>(g.block k (Nat.lt_of_lt_of_le hk h.size) (by omega)).trans (h.block k hk)⟩
theorem GX.cell {R:Nat} {w w':World} (h:GX R w w') {p:Addr} (hp:p.block<w.heap.size) (hn:p.block≠R):w'.cell? p=w.cell? p:=World.cell?_of_block (h.block _ hp hn)
theorem GX.frozen {R:Nat} {w w':World} (h:GX R w w') {p:Addr} (hp:p.block<w.heap.size) (hn:p.block≠R):w'.frozen? p=w.frozen? p:=World.frozen?_of_block (h.block _ hp hn)
theorem GX.cells {R:Nat} {W w1:World} (hb:GX R W w1):(∀b o,b<W.heap.size->b≠R->w1.cell? ⟨b,o,none⟩=W.cell? ⟨b,o,none⟩)/\(∀b o,b<W.heap.size->b≠R->w1.frozen? ⟨b,o,none⟩=W.frozen? ⟨b,o,none⟩):=
 ⟨λb o h hn=>hb.cell (p:=⟨b,o,none⟩) h hn,λb o h hn=>hb.frozen (p:=⟨b,o,none⟩) h hn⟩
section
variable {P:Program} {ops:Array Oper} {Q:Exit->Act->World->Prop} {md:Region.Mode} {S:World->Prop} {z:Nat}
def wpAnyZ (P:Program) (md:Region.Mode) (ops:Array Oper) (Q:Exit->Act->World->Prop) (S:World->Prop) (z:Nat):Nat->Array Bool->Act->World->Prop
 | 0,listed,a,w=>Region.ready md ops listed=[]/\Q .normal a w
 | fuel+1,listed,a,w=>
  (Region.ready md ops listed=[]->Q .normal a w)/\
  ∀i∈Region.ready md ops listed,wpOp P ops Q i (λa' w'=>(i≠z->S w')/\wpAnyZ P md ops Q S z fuel (listed.setIfInBounds i true) a' w') a w
theorem wpAny_of_Z:∀(fuel:Nat) (listed:Array Bool) (a:Act) (w:World),wpAnyZ P md ops Q S z fuel listed a w->wpAny P md ops Q fuel listed a w
 | 0,_,_,_,h=>h
 | fuel+1,_,_,_,h=>⟨h.1,λi hi=>wpOp_mono (λa' w' h'=>wpAny_of_Z fuel _ a' w' h'.2) (h.2 i hi)⟩
def lastB (md:Region.Mode) (ops:Array Oper) (z:Nat):Bool:=decide (z<ops.size)&&decide (ops.size<=z+1)&&Region.sinkB md ops z&&Region.chainB md ops z
def closedB (md:Region.Mode) (ops:Array Oper) (z:Nat) (listed:Array Bool):Bool:=
 decide (listed.size=ops.size)&&((List.range ops.size).all λj=> !listed.getD j false||((ops[j]?).map (·.after.all λe=> !Region.binds md e||listed.getD e.on false)).getD true)&&(List.range ops.size).all λt=>decide (t<z) || !listed.getD t true
theorem closed_inv {listed:Array Bool} (h:closedB md ops z listed=true):HeadInv md ops z listed:=by
 unfold closedB at h;simp only[Bool.and_eq_true,decide_eq_true_eq] at h;obtain ⟨⟨h0,h1⟩,h2⟩:=h;refine ⟨h0,λj oj hj hl e he hb=>?_,λt ht ht'=>?_⟩
 ·have h3:=List.all_eq_true.1 h1 j (List.mem_range.2 (Array.getElem?_eq_some_iff.1 hj).1);rw[hl,hj] at h3;simp only[Bool.not_true,Bool.false_or,Option.map_some,Option.getD_some] at h3;have h4:=Array.all_eq_true'.1 h3 e he;rw[hb] at h4;simpa using h4
 ·have h3:=List.all_eq_true.1 h2 t (List.mem_range.2 ht');simp only[Bool.or_eq_true,decide_eq_true_eq,Bool.not_eq_true'] at h3;rcases h3 with h3|h3
  ·omega
  ·exact h3
theorem wpAnyZ_first {i:Nat} {oi:Oper} {v:Value} (hi:ops[i]?=some oi) (hiz:i<z) (hsel:∀(j:Nat) (o:Oper) cs b,ops[j]?=some o->o.op ≠ .select cs b)
  (hlast:lastB md ops z=true) (hQ:∀c a w,Q (.panic c) (a.put oi.dst v) w->Q (.panic c) a w) :
  ∀(fuel:Nat) (listed:Array Bool) (a:Act) (w:World),HeadInv md ops z listed->
   (∀j oj,ops[j]?=some oj->j≠i->listed.getD j true=false->(∀e∈oj.after,Region.binds md e=true->e.on≠i)->oi.apart ops oj=true)->
   i∈Region.ready md ops listed->YieldsIf P ops S oi v a->S w->
   wpAnyZ P md ops Q S z fuel (listed.setIfInBounds i true) (a.put oi.dst v) w->wpAnyZ P md ops Q S z (fuel+1) listed a w:=by
 have hl:=hlast;unfold lastB at hl;simp only[Bool.and_eq_true,decide_eq_true_eq] at hl;obtain ⟨⟨⟨hzs,hze⟩,hsink⟩,hchain⟩:=hl;intro fuel;induction fuel with
 | zero=>
  intro listed a w _ _ hr hy hS H;refine ⟨λh=>(by rw[h] at hr;cases hr),λj hj=>?_⟩;by_cases hji:j=i
  ·subst hji;exact hy.wpOp hi hS ⟨λ_=>hS,H⟩
  ·have:=ready_mono hj hji;rw[H.1] at this;cases this
 | succ fuel ih=>
  intro listed a w inv hfree hr hy hS H;refine ⟨λh=>(by rw[h] at hr;cases hr),λj hj=>?_⟩;by_cases hji:j=i
  ·subst hji;exact hy.wpOp hi hS ⟨λ_=>hS,H⟩
  ·have h1:=H.2 j (ready_mono hj hji);obtain ⟨hjun,oj,hoj,hall⟩:=mem_ready.1 hj;have hiun:=(mem_ready.1 hr).1;have hjz:j<z:=by
    rcases Nat.lt_or_ge j z with h|h
    ·exact h
    ·exact absurd hj (tail_waits hsink hchain hzs inv _ i rfl hiz hiun j h)
   have hnot:∀e∈oj.after,Region.binds md e=true->e.on≠i:=λe he hb heq=>by
    have h1:=hall e he hb;rw[heq,getD_both hiun] at h1;cases h1
   have h2:=wpOp_putIf hoj (hfree j oj hoj hji hjun hnot) (λcs b=>hsel i oi cs b hi) (λcs b=>hsel j oj cs b hoj) hQ hy h1;have hfree':∀k ok,ops[k]?=some ok->k≠i->(listed.setIfInBounds j true).getD k true=false->
     (∀e∈ok.after,Region.binds md e=true->e.on≠i)->oi.apart ops ok=true:=λk ok hk hki hun hno=>by
    refine hfree k ok hk hki ?_ hno;by_cases hjk:j=k
    ·subst hjk;exact hjun
    ·rw[getD_set_ne true hjk] at hun;exact hun
   refine wpOp_mono (λa' w' h3=>⟨h3.2.1,ih (listed.setIfInBounds j true) a' w' (inv.set hj hjz) hfree' (ready_mono hr (Ne.symm hji)) h3.1 (h3.2.1 (by omega)) ?_⟩) h2;rw[Array.setIfInBounds_comm _ _ hji];exact h3.2.2
theorem wpAnyZ_take {i:Nat} {oi:Oper} {v:Value} {fuel:Nat} {listed:Array Bool} {a:Act} {w:World} (hi:ops[i]?=some oi) (hlast:(decide (i<z)&&lastB md ops z&&closedB md ops z listed&&Region.noSelect ops&&Region.free md ops listed i&&(Region.ready md ops listed).contains i)=true)
  (hQ:∀c a w,Q (.panic c) (a.put oi.dst v) w->Q (.panic c) a w) (hw:Region.wanted oi (yielded ops a.tmps)=true) (hy:∀w,S w->(execOp a.eval oi).run P w= .ok (.value v) w) (hS:S w)
  (h:wpAnyZ P md ops Q S z fuel (listed.setIfInBounds i true) (a.put oi.dst v) w):wpAnyZ P md ops Q S z (fuel+1) listed a w:=by
 simp only[Bool.and_eq_true,decide_eq_true_eq] at hlast;obtain ⟨⟨⟨⟨⟨h0,h1⟩,h2⟩,h3⟩,h4⟩,h5⟩:=hlast;exact wpAnyZ_first hi h0 (Region.noSelect_spec h3) h1 hQ fuel listed a w (closed_inv h2) (Region.free_spec hi h4) (by simpa using h5) (Or.inl ⟨hw,hy⟩) hS h
def AllReadyZ (P:Program) (md:Region.Mode) (ops:Array Oper) (Q:Exit->Act->World->Prop) (S:World->Prop) (z fuel:Nat) (listed:Array Bool) (a:Act) (w:World) (rs:List Nat):Prop:=
 ∀i∈rs,wpOp P ops Q i (λa' w'=>(i≠z->S w')/\wpAnyZ P md ops Q S z fuel (listed.setIfInBounds i true) a' w') a w
theorem AllReadyZ.nil {fuel:Nat} {listed:Array Bool} {a:Act} {w:World}:AllReadyZ P md ops Q S z fuel listed a w []:=λ_ h=>by cases h
theorem AllReadyZ.cons {fuel:Nat} {listed:Array Bool} {a:Act} {w:World} {i:Nat} {o:Oper} {rs:List Nat} (ho:ops[i]?=some o) (hw:Region.wanted o (yielded ops a.tmps)=true)
  (h:∀K':Act->World->Prop,Shut (∀a w,(i≠z->S w)->((i≠z->S w)->wpAnyZ P md ops Q S z fuel (listed.setIfInBounds i true) a w)->K' a w)->Oper.wp P o a w K' Q)
  (hs:AllReadyZ P md ops Q S z fuel listed a w rs):AllReadyZ P md ops Q S z fuel listed a w (i::rs):=λj hj=>by
 rcases List.mem_cons.1 hj with rfl|hj
 ·exact wpOp_step ho (λK' hK=>by rw[if_pos hw];exact h K' (λa w hS hW=>hK a w ⟨hS,hW hS⟩))
 ·exact hs j hj
theorem wpAnyZ_ready {rs:List Nat} {fuel:Nat} {listed:Array Bool} {a:Act} {w:World} (hr:Region.ready md ops listed=rs) (hne:rs≠[])
  (h:AllReadyZ P md ops Q S z fuel listed a w rs):wpAnyZ P md ops Q S z (fuel+1) listed a w:=
 ⟨λh0=>absurd (hr▸h0) hne,hr▸h⟩
theorem zt {oi:Oper} {v:Value} {fuel:Nat} {listed listed':Array Bool} {a a':Act} {w:World} (i:Nat) (hS:S w) (h:wpAnyZ P md ops Q S z fuel listed' a' w) (hi:ops[i]?=some oi:=by rfl) (hlast:(decide (i<z)&&lastB md ops z&&closedB md ops z listed&&Region.noSelect ops&&Region.free md ops listed i&&(Region.ready md ops listed).contains i)=true:=by kernel_rfl) (hQ:∀c a w,Q (.panic c) (a.put oi.dst v) w->Q (.panic c) a w:=by exact λ_ _ _ h=>h) (hw:Region.wanted oi (yielded ops a.tmps)=true:=by rfl) (hy:∀w,S w->(execOp a.eval oi).run P w= .ok (.value v) w:=by intro W hS;go_simp<;>rfl) (ha:a.put oi.dst v=a':=by first|(simp only[Act.put,List.setIfInBounds_toArray,List.set_cons_zero,List.set_cons_succ];done)|(simp only[Act.put,List.setIfInBounds_toArray,List.set_cons_zero,List.set_cons_succ];rfl)|rfl) (hl:listed.setIfInBounds i true=listed':=by first|(simp only[Act.put,List.setIfInBounds_toArray,List.set_cons_zero,List.set_cons_succ];done)|(simp only[Act.put,List.setIfInBounds_toArray,List.set_cons_zero,List.set_cons_succ];rfl)|rfl):wpAnyZ P md ops Q S z (fuel+1) listed a w:=by
 subst ha hl;exact wpAnyZ_take hi hlast hQ hw hy hS h
theorem zu {oi:Oper} {v:Value} {fuel:Nat} {listed listed':Array Bool} {a a':Act} {w:World} (i:Nat) (hS:S w) (h:wpAnyZ P md ops Q S z fuel listed' a' w) (hi:ops[i]?=some oi:=by rfl) (hlast:(decide (i<z)&&lastB md ops z&&closedB md ops z listed&&Region.noSelect ops&&Region.free md ops listed i&&(Region.ready md ops listed).contains i)=true:=by kernel_rfl) (hQ:∀c a w,Q (.panic c) (a.put oi.dst v) w->Q (.panic c) a w:=by exact λ_ _ _ h=>h) (hw:Region.wanted oi (yielded ops a.tmps)=true:=by rfl) (hy:∀w,S w->(execOp a.eval oi).run P w= .ok (.value v) w:=by intro W hS;go_simp<;>rfl) (ha:a.put oi.dst v=a':=by first|(simp only[Act.put,List.getElem_toArray,List.getElem_cons_succ,List.getElem_cons_zero,List.setIfInBounds_toArray,List.set_cons_zero,List.set_cons_succ];done)|(simp only[Act.put,List.getElem_toArray,List.getElem_cons_succ,List.getElem_cons_zero,List.setIfInBounds_toArray,List.set_cons_zero,List.set_cons_succ];rfl)|rfl) (hl:listed.setIfInBounds i true=listed':=by first|(simp only[Act.put,List.getElem_toArray,List.getElem_cons_succ,List.getElem_cons_zero,List.setIfInBounds_toArray,List.set_cons_zero,List.set_cons_succ];done)|(simp only[Act.put,List.getElem_toArray,List.getElem_cons_succ,List.getElem_cons_zero,List.setIfInBounds_toArray,List.set_cons_zero,List.set_cons_succ];rfl)|rfl):wpAnyZ P md ops Q S z (fuel+1) listed a w:=by
 subst ha hl;exact wpAnyZ_take hi hlast hQ hw hy hS h
theorem zs {fuel:Nat} {listed:Array Bool} {a:Act} {w:World} {o:Oper} (i:Nat) (ho:ops[i]?=some o) (h:∀K':Act->World->Prop,Shut (∀a w,(i≠z->S w)->((i≠z->S w)->wpAnyZ P md ops Q S z fuel (listed.setIfInBounds i true) a w)->K' a w)->Oper.wp P o a w K' Q) (hr:Region.ready md ops listed=[i]:=by kernel_rfl) (hw:Region.wanted o (yielded ops a.tmps)=true:=by rfl):wpAnyZ P md ops Q S z (fuel+1) listed a w:=wpAnyZ_ready hr (by simp) (AllReadyZ.cons ho hw h AllReadyZ.nil)
theorem wpAnyZ_done {listed:Array Bool} {a:Act} {w:World} (hr:Region.ready md ops listed=[]) (h:Q .normal a w):∀fuel,wpAnyZ P md ops Q S z fuel listed a w
 | 0=>⟨hr,h⟩
 | _+1=>⟨λ_=>h,by rw[hr];simp⟩
theorem wp_region_Z (z:Nat) (S:World->Prop) {id:Nat} {a:Act} {w:World} (hm:P.follows .mixedOrders=true)
  (h:wpAnyZ P .any ops Q S z ops.size (Array.replicate ops.size false) a w.drew):(Code.region id ops true).wp P Q a w:=
 wp_region_any hm (wpAny_of_Z _ _ _ _ h)
end
section
variable {P:Program}
theorem Addr.add_0 (p:Addr):p.add 0=p:=rfl
theorem run_storeVar_cell (w:World) (p:Addr) (ty:TypeId) (u old:Value) (hc:w.cell? p=some old) (hf:w.frozen? p=false) (hi:(P.info? ty).map (·.size)=some 1) (h1:u.oneCell'=true):(storeVar ty p u).run P w= .ok () (w.setCell p u):=by
 have hcs:u.cells= #[u]:=by cases u<;>first|rfl|cases h1
 have hst:(store p u).run P w= .ok () (w.setCell p u):=by
  rw[run_store P w _ u _ h1,hc];simp[hf]
 cases hq:P.info? ty with
 | none=>simp[hq] at hi
 | some i=>
  have hs:i.size=1:=by simpa [hq] using hi
  simp[storeVar,sizeOf,typeInfo,hq,hcs,hs,storeCells,Addr.add_0,hst]
theorem wp_store_cell {o:Oper} {a:Act} {w:World} {K:Act->World->Prop} {Q:Exit->Act->World->Prop} (ty:TypeId) (x y:Operand) (ho:o.op= .store ty x y)
  (p:Addr) (u old:Value) (hx:a.eval x= .pointer (some p)) (hy:a.eval y=u) (hc:w.cell? p=some old) (hf:w.frozen? p=false) (hi:(P.info? ty).map (·.size)=some 1) (h1:u.oneCell'=true)
  (h:K (a.put o.dst undef) (w.setCell p u)):o.wp P a w K Q:=by
 unfold Oper.wp execOp;simp only[ho,hx,hy,Instr.storeAt,Instr.sureAddr,Sem.run_bind,Sem.run_pure,Result.andThen_ok,run_storeVar_cell w p ty u old hc hf hi h1];exact h
end
section
variable {P:Program} {ops:Array Oper} {md:Region.Mode} {C:World->Prop}
def headQ (P:Program) (md:Region.Mode) (ops:Array Oper) (C:World->Prop) (n:Nat) (L:Array Bool->Act->Prop):Nat->Array Bool->Act->Prop
 | 0,listed,a=>L listed a
 | f+1,listed,a=>
  Region.ready md ops listed≠[]/\∀i∈Region.ready md ops listed,i<n/\qOp P ops C i (headQ P md ops C n L f (listed.setIfInBounds i true)) a
theorem any_of_headQ {n g:Nat} {L:Array Bool->Act->Prop} {Q':Exit->Act->World->Prop} (hL:∀listed a w,C w->L listed a->wpAny P md ops Q' g listed a w) :
  ∀(f:Nat) (listed:Array Bool) (a:Act) (w:World),C w->headQ P md ops C n L f listed a->wpAny P md ops Q' (f+g) listed a w
 | 0,listed,a,w,hw,h=>by rw[Nat.zero_add];exact hL _ _ _ hw h
 | f+1,listed,a,w,hw,h=>by
  rw[show f+1+g=(f+g)+1 by omega];exact ⟨λh0=>absurd h0 h.1,λi hi=>wpOp_of_qOp hw (λa' w' hw' h'=>any_of_headQ hL f _ a' w' hw' h') (h.2 i hi).2⟩
theorem headQ_first {n i:Nat} {oi:Oper} {v:Value} {L:Array Bool->Act->Prop} (hi:ops[i]?=some oi) (hsel:∀(j:Nat) (o:Oper) cs b,ops[j]?=some o->o.op ≠ .select cs b)
  (hs:Region.sinkB md ops n=true) (hc:Region.chainB md ops n=true) (hn:n<ops.size) (hin:i<n)
  (hdone:∀listed a,L listed a->∀j∈Region.ready md ops listed,n<=j) :
  ∀(f:Nat) (listed:Array Bool) (a:Act),HeadInv md ops n listed->
   (∀j oj,ops[j]?=some oj->j≠i->listed.getD j true=false->(∀e∈oj.after,Region.binds md e=true->e.on≠i)->oi.apart ops oj=true)->
   i∈Region.ready md ops listed->YieldsIn P ops C oi v a->
   headQ P md ops C n L f (listed.setIfInBounds i true) (a.put oi.dst v)->headQ P md ops C n L (f+1) listed a:=by
 intro f;induction f with
 | zero=>
  intro listed a inv _ hr hy H;have hun:=(mem_ready.1 hr).1;refine ⟨λh=>(by rw[h] at hr;cases hr),λj hj=>?_⟩;have hjn:j<n:=Nat.lt_of_not_ge λh=>absurd hj (tail_waits hs hc hn inv _ i rfl hin hun j h);refine ⟨hjn,?_⟩;by_cases hji:j=i
  ·subst hji;exact hy.qOp hi H
  ·exact absurd (hdone _ _ H j (ready_mono hj hji)) (by omega)
 | succ f ih=>
  intro listed a inv hfree hr hy H;have hun:=(mem_ready.1 hr).1;refine ⟨λh=>(by rw[h] at hr;cases hr),λj hj=>?_⟩;have hjn:j<n:=Nat.lt_of_not_ge λh=>absurd hj (tail_waits hs hc hn inv _ i rfl hin hun j h);refine ⟨hjn,?_⟩;by_cases hji:j=i
  ·subst hji;exact hy.qOp hi H
  ·have h1:=(H.2 j (ready_mono hj hji)).2;obtain ⟨hjun,oj,hoj,hall⟩:=mem_ready.1 hj;have hnot:∀e∈oj.after,Region.binds md e=true->e.on≠i:=λe he hb heq=>by
    have h2:=hall e he hb;rw[heq,getD_both hun] at h2;cases h2
   have h2:=qOp_put hoj (hfree j oj hoj hji hjun hnot) (λcs b=>hsel i oi cs b hi) (λcs b=>hsel j oj cs b hoj) hy h1;refine qOp_mono (λa' h3=>ih (listed.setIfInBounds j true) a' (inv.set hj hjn) (λk ok hk hki hk0 hno=>hfree k ok hk hki ?_ hno) (ready_mono hr (Ne.symm hji)) h3.1 ?_) h2
   ·by_cases hjk:j=k
    ·subst hjk;exact hjun
    ·rwa [getD_set_ne true hjk] at hk0
   ·rw[Array.setIfInBounds_comm _ _ hji];exact h3.2
theorem headQ_lex {n g:Nat} {Lq:Act->Prop} (hsel:Region.noSelect ops=true) (hs:Region.sinkB md ops n=true) (hc:Region.chainB md ops n=true) (hn:n<ops.size) :
  ∀(l:List Oper) (k:Nat) (listed:Array Bool) (a:Act),(∀j,j<l.length->l[j]?=ops[k+j]?)->k+l.length=n->HeadInv md ops n listed->
  Region.lexHead md ops g l.length k listed=true->wpQuiet P ops C Lq l a->
  headQ P md ops C n (λlisted' a'=>Region.seqB md ops g n listed'=true/\Lq a') l.length listed a
 | [],k,listed,a,_,hk,_,hB,h=>by
  have:k=n:=by simpa using hk
  subst this;exact ⟨by simpa [Region.lexHead] using hB,h⟩
 | o::l,k,listed,a,hl,hk,inv,hB,h=>by
  have h0:ops[k]?=some o:=by simpa using (hl 0 (by simp)).symm
  simp only[List.length_cons,Region.lexHead,Bool.and_eq_true] at hB;obtain ⟨⟨hr,hf⟩,hB'⟩:=hB;have hkn:k<n:=by simp only[List.length_cons] at hk;omega
  have hr':k∈Region.ready md ops listed:=by simpa using hr
  have hst:qOp P ops C k (wpQuiet P ops C Lq l) a:=by unfold qOp;simp only[h0];exact h
  obtain ⟨v,hy,hK⟩:=yieldsIn_of_qOp h0 hst;refine headQ_first h0 (Region.noSelect_spec hsel) hs hc hn hkn (λlisted' a' hL=>seqB_ready hL.1) l.length listed a inv (Region.free_spec h0 hf) hr' hy
   (headQ_lex hsel hs hc hn l (k+1) _ _ (λj hj=>?_) (by simp only[List.length_cons] at hk;omega) (inv.set hr' hkn) hB' hK)
  have:=hl (j+1) (by simp;omega);simpa [Nat.add_assoc,Nat.add_comm 1 j] using this
theorem region_T {id:Nat} {Q:Exit->Act->World->Prop} {a:Act} {w:World} {l:List Oper} (n:Nat) (hm:P.follows .mixedOrders=true) (hB:Region.lexTailB .any l.toArray n=true)
  (h:wpQuiet P l.toArray (λW=>Gr w W) (λa'=>∀w',Gr w w'->wpList P l.toArray Q (l.drop n) a' w') (l.take n) a):(Code.region id l.toArray true).wp P Q a w:=by
 simp only[Region.lexTailB,Bool.and_eq_true,decide_eq_true_eq] at hB;obtain ⟨⟨⟨⟨hsel,hn⟩,hs⟩,hc⟩,hlex⟩:=hB;have hn':n<l.length:=by simpa using hn
 have htl:(l.take n).length=n:=by simp;omega
 have hdl:(l.drop n).length=l.toArray.size-n:=by simp
 have inv0:HeadInv .any l.toArray n (Array.replicate l.toArray.size false):=
  ⟨by simp,λj oj _ hl=>(by rw[getD_replicate_false] at hl;cases hl),λt _ ht=>getD_in (by simpa using ht) (getD_replicate_false _ _)⟩
 have H:=headQ_lex (md:= .any) (g:=l.toArray.size-n) hsel hs hc hn (l.take n) 0 _ a (λj hj=>by
  have hj':j<n:=by rw[htl] at hj;exact hj
  simp[hj']) (by simpa using htl) inv0 (by rw[htl];exact hlex) h
 refine wp_region_any hm ?_;have:=any_of_headQ (Q':=Q) (g:=l.toArray.size-n) (λlisted a' w' hw' hL=>by
  have:=wpAny_of_seq (md:= .any) (Q':=Q) (l.drop n) n listed a' w' (λj=>by simp[List.getElem?_drop]) (by rw[hdl];exact hL.1) (hL.2 w' hw')
  rwa [hdl] at this) _ _ _ _ (Gr.drew (Gr.refl w)) H
 rw[htl,show n+(l.toArray.size-n)=l.toArray.size by omega] at this;exact this
end
section
variable {P:Program} {w:World}
theorem Rd.grown {w w':World} {size n:Nat} {A:Option Addr} {xs:List Value} {row:Option Nat} (h:Rd w size A n xs) (hg:w.grownBy w' row) (hne:∀ad,A=some ad->some ad.block≠row):Rd w' size A n xs:=
 ⟨h.1,λhn=>by
  obtain ⟨ad,e,hb,hc⟩:=h.2 hn;exact ⟨ad,e,Nat.lt_of_lt_of_le hb hg.size,λj u hu=>hg.cell (hc j u hu) (by rw[add_blk];exact hne ad e)⟩⟩
theorem wp_append_rd0 {o:Oper} {a:Act} {Q:Exit->Act->World->Prop} {K:Act->World->Prop} (s x:Operand) (t:TypeId)
  (ho:o.op= .call {callee:= .builtin .append,args:= #[s,x],argTypes:= #[t,t]})
  (base:Nat) (e:TypeId) (i:TypeInfo) (z:Value) (size bytes:Nat) (ht:P.underlying t=some (.slice e)) (hi:P.info? e=some i) (hz:i.zero=some z)
  (hsize:i.size=size) (hby:i.bytes=bytes) (hzs:z.cells.size=size) (hsz:0<size)
  (v:Value) (n:Nat) (xs:List Value) (hs:a.eval s=v) (hown:w.ownsRow base e size v n xs)
  (A:Option Addr) (m c:Nat) (news:List Value) (hx:a.eval x= .slice A m c) (hr:Rd w size A m news) (h1:∀u∈news,u.oneCell'=true)
  (h63:n+m<=maxLen) (hbytes:(n+m)*bytes<=140737488355328) (hbase:base<=w.heap.size)
  (h:∀v' w',w'.ownsRow base e size v' (n+m) (xs++news)->w.grownBy w' v.ownBlock->(v'.ownBlock=v.ownBlock\/v'.ownBlock=some w.heap.size)->K (a.put o.dst v') w'):Oper.wp P o a w K Q:=by
 have hrun:∃v' w',(Builtin.append_ #[t,t] o.type #[v, .slice A m c]).run P w= .ok v' w'/\w'.ownsRow base e size v' (n+m) (xs++news)/\w.grownBy w' v.ownBlock/\(v'.ownBlock=v.ownBlock\/v'.ownBlock=some w.heap.size):=by
  rcases Nat.eq_zero_or_pos m with hm|hm
  ·subst hm;have hn:news=[]:=List.eq_nil_of_length_eq_zero (by simpa using hr.1);subst hn;cases A with
   | none=>exact ⟨v,w,append_nil_run base t o.type e i size ht hi hown c,by simpa using hown,World.grownBy.refl w _, .inl rfl⟩
   | some ad=>
    obtain ⟨v',w',k1,k2,k3,_,k5⟩:=run_append_own_at (P:=P) w base t o.type e i z size bytes ht hi hz hsize hby hzs hsz v n xs hown ad 0 c [] (by simp) (by intro j u hu;simp at hu) (by intro u hu;simp at hu) h63 hbytes hbase;exact ⟨v',w',k1,k2,k3,k5⟩
  ·obtain ⟨ad,rfl,_,hc⟩:=hr.2 hm;obtain ⟨v',w',k1,k2,k3,_,k5⟩:=run_append_own_at (P:=P) w base t o.type e i z size bytes ht hi hz hsize hby hzs hsz v n xs hown ad m c news hr.1 hc h1 h63 hbytes hbase;exact ⟨v',w',k1,k2,k3,k5⟩
 obtain ⟨v',w',hr1,h2,h3,h4⟩:=hrun;unfold Oper.wp execOp;simp only[ho,resolve,invoke,builtin,Sem.run_bind,Sem.run_pure,Result.andThen_ok,List.map_toArray,List.map_cons,List.map_nil,hs,hx,hr1];exact h v' w' h2 h3 h4
end
theorem is_any (ok:Bool) (n:Int) (w:World) :
  Calls Tryz.prog 118 #[.agg #[.bool ok, .int .i64 n]] w λe w'=>e= .returned (.bool (isB ⟨ok,n⟩))/\Gr w w':=by
 cases ok <;>
 ·go_enter Tryz.func118,Tryz.ntmps118;go_wp2;all_goals (go_ret;exact ⟨by simp[isB, *]<;>omega,gq⟩)
theorem ris_any (ok:Bool) (n:Int) (w:World) :
  Calls Tryz.prog 129 #[.agg #[.bool ok, .int .i64 n]] w λe w'=>e= .returned (.bool (isB ⟨ok,n⟩))/\Gr w w':=by
 cases ok <;>
 ·go_enter Tryz.func129,Tryz.ntmps129;go_wp2;all_goals (go_ret;exact ⟨by simp[isB, *]<;>omega,gq⟩)
theorem of_any (n:Int) (w:World) :
  Calls Tryz.prog 87 #[.int .i64 n] w λe w'=>e= .returned (.agg #[.bool (ofV n).ok, .int .i64 (ofV n).n])/\Gr w w':=by
 go_enter Tryz.func87,Tryz.ntmps87;go_wp2_with (go_at_call 118;refine (is_any true n _).mono ?_;rintro e w1 ⟨rfl,hg⟩;obtain ⟨hc,hf⟩:=hg.cells;have hz:=hg.size);all_goals
  have q0:w1.cell? ⟨w.heap.size,0,none⟩=some (.bool false):=by go_simp
  have q1:w1.cell? ⟨w.heap.size,1,none⟩=some (.int .i64 0):=by go_simp
  exact bodyPost_ret (v:= .agg #[.bool (ofV n).ok, .int .i64 (ofV n).n]) (by simp[results,Tryz.results87,go_sem,ofV, *]) rfl ⟨rfl,gq⟩
theorem rof_any (n:Int) (w:World) :
  Calls Tryz.prog 70 #[.int .i64 n] w λe w'=>e= .returned (.agg #[.bool (ofV n).ok, .int .i64 (ofV n).n])/\Gr w w':=by
 by_cases h1:n < -4611686018427387904
 ·have hv:=ofV_lo h1;rw[hv];clear hv;go_enter Tryz.func70,Tryz.ntmps70;go_wp2;exact bodyPost_ret (v:= .agg #[.bool false, .int .i64 0]) (by simp[results,Tryz.results70,go_sem]) rfl ⟨rfl,gq⟩
 ·by_cases h2:4611686018427387904<n
  ·have hv:=ofV_hi h2;rw[hv];clear hv;go_enter Tryz.func70,Tryz.ntmps70;go_wp2;exact bodyPost_ret (v:= .agg #[.bool false, .int .i64 0]) (by simp[results,Tryz.results70,go_sem]) rfl ⟨rfl,gq⟩
  ·have hv:=ofV_in (n:=n) (by omega) (by omega);rw[hv];clear hv;go_enter Tryz.func70,Tryz.ntmps70;go_wp2;exact bodyPost_ret (v:= .agg #[.bool true, .int .i64 n]) (by simp[results,Tryz.results70,go_sem]) rfl ⟨rfl,gq⟩
theorem rint_any (n:Int) (w:World) :
  Calls Tryz.prog 45 #[.int .i64 n] w λe w'=>e= .returned (.agg #[.bool (intV n).ok, .int .i64 (intV n).n])/\Gr w w':=by
 by_cases h1:n < -4611686018427
 ·have hv:intV n=⟨false,0⟩:=by
   have:¬ -4611686018427<=n:=by omega
   simp[intV,this]
  rw[hv];clear hv;go_enter Tryz.func45,Tryz.ntmps45;go_wp2;exact bodyPost_ret (v:= .agg #[.bool false, .int .i64 0]) (by simp[results,Tryz.results45,go_sem]) rfl ⟨rfl,gq⟩
 ·by_cases h2:4611686018427<n
  ·have hv:intV n=⟨false,0⟩:=by
    have:¬n<=4611686018427:=by omega
    simp[intV,this]
   rw[hv];clear hv;go_enter Tryz.func45,Tryz.ntmps45;go_wp2;exact bodyPost_ret (v:= .agg #[.bool false, .int .i64 0]) (by simp[results,Tryz.results45,go_sem]) rfl ⟨rfl,gq⟩
  ·have hv:intV n=ofV (n*1000000):=by
    have a1: -4611686018427<=n:=by omega
    have a2:n<=4611686018427:=by omega
    simp[intV,a1,a2]
   rw[hv];clear hv;go_enter Tryz.func45,Tryz.ntmps45;go_wp2_with (go_at_call 70;refine (rof_any (n*1000000) _).mono ?_;rintro e w1 ⟨rfl,hg⟩;obtain ⟨hc,hf⟩:=hg.cells;have hz:=hg.size);have q0:w1.cell? ⟨w.heap.size,0,none⟩=some (.bool false):=by go_simp
   have q1:w1.cell? ⟨w.heap.size,1,none⟩=some (.int .i64 0):=by go_simp
   exact bodyPost_ret (v:= .agg #[.bool (ofV (n*1000000)).ok, .int .i64 (ofV (n*1000000)).n]) (by simp[results,Tryz.results45,go_sem, *]) rfl ⟨rfl,gq⟩
theorem rkn_any (a:Vl) (w:World) :
  Calls Tryz.prog 102 #[.agg #[.bool a.ok, .int .i64 a.n]] w λe w'=>e= .returned (.bool (knB a))/\Gr w w':=by
 obtain ⟨ok,n⟩:=a;cases ok
 ·go_enter Tryz.func102,Tryz.ntmps102;go_wp2;go_ret;exact ⟨by simp[knB],gq⟩
 ·go_enter Tryz.func102,Tryz.ntmps102;go_wp2_with (go_at_call 129;refine (ris_any _ _ _).mono ?_;rintro e w1 ⟨rfl,hg⟩;obtain ⟨hc,hf⟩:=hg.cells;have hz:=hg.size);go_ret;exact ⟨by simp[knB],gq⟩
theorem two_any (a b:Vl) (w:World) :
  Calls Tryz.prog 73 #[.agg #[.bool a.ok, .int .i64 a.n], .agg #[.bool b.ok, .int .i64 b.n]] w λe w'=>e= .returned (.bool (knB a&&knB b))/\Gr w w':=by
 cases ha:knB a
 ·go_enter Tryz.func73,Tryz.ntmps73;go_wp2_with (go_at_call 102;refine (rkn_any a _).mono ?_;rintro e w1 ⟨rfl,hg⟩;obtain ⟨hc,hf⟩:=hg.cells;have hz:=hg.size);go_ret;exact ⟨by simp,gq⟩
 ·go_enter Tryz.func73,Tryz.ntmps73;go_wp2_with fail;refine (rkn_any a _).mono ?_;rintro e w1 ⟨rfl,hg⟩;obtain ⟨hc,hf⟩:=hg.cells;have hz:=hg.size;go_wp2_with (go_at_call 102;refine (rkn_any b _).mono ?_;rintro e w1 ⟨rfl,hg⟩;obtain ⟨hc,hf⟩:=hg.cells;have hz:=hg.size);go_ret;exact ⟨by simp,gq⟩
theorem rless_any (a b:Vl) (w:World) :
  Calls Tryz.prog 44 #[.agg #[.bool a.ok, .int .i64 a.n], .agg #[.bool b.ok, .int .i64 b.n]] w λe w'=>e= .returned (.bool (lessB a b))/\Gr w w':=by
 cases hab:(knB a&&knB b)
 ·have hv:lessB a b=false:=by simp[lessB,hab]
  rw[hv];clear hv;go_enter Tryz.func44,Tryz.ntmps44;go_wp2_with fail;refine (two_any a b _).mono ?_;rintro e w1 ⟨rfl,hg⟩;obtain ⟨hc,hf⟩:=hg.cells;have hz:=hg.size;(try simp at hz);have z0:w.heap.size<w1.heap.size:=(by omega);have z1:w.heap.size+1<w1.heap.size:=(by omega)
  go_wp2;go_ret;exact ⟨rfl,gq⟩
 have hv:lessB a b=decide (a.n<b.n):=by simp[lessB,hab]
 rw[hv];clear hv;go_enter Tryz.func44,Tryz.ntmps44;go_wp2_with fail;refine (two_any a b _).mono ?_;rintro e w1 ⟨rfl,hg⟩;obtain ⟨hc,hf⟩:=hg.cells;have hz:=hg.size;(try simp at hz);have z0:w.heap.size<w1.heap.size:=(by omega);have z1:w.heap.size+1<w1.heap.size:=(by omega)
 go_wp2;go_ret;exact ⟨rfl,gq⟩
section
open Go.ChangeShapes Go.WideShapes Go.ChangeAt Go.RowKit Go.Joins
open Go.Deep (open_slice_pairs)
theorem own_knob:ownKnob Tryz.prog.godebug=none:=by kernel_rfl
theorem laid_out:laidOutB Tryz.prog=true:=by kernel_rfl
end
end Go.Proofs.YtjapddfnpmlifaaGreatDoor
