import Derived.WalkKit
import Derived.WalkSpells
import Derived.WalkLawsBesides
import Derived.Test.YtnphdacibageiaaGreatProg
import Derived.Deep.RegionHeld3
import Derived.Maps.AppendAt
import Derived.OwnWalk
import Derived.Lib.Hide
import Derived.Outline
import Derived.Laws.Bits64b
import Derived.Lib.BitFns
set_option linter.all false
set_option maxRecDepth 1000000
set_option maxHeartbeats 12800000
namespace Go.Proofs.YtnphdacibageiaaGreat
open Go.RowKit
def Gr (w w':World):Prop:=Below w.heap.size w w'
theorem Gr.refl (w:World):Gr w w:=Below.refl _ _
theorem Gr.size {a w:World} (h:Gr a w):a.heap.size≤w.heap.size:=Below.size h
theorem Gr.alloc {a w:World} (h:Gr a w) (o:Obj):Gr a (w.alloc o):=Below.alloc h h.size o
theorem Gr.drew {a w:World} (h:Gr a w):Gr a w.drew:=Below.drew h
theorem Gr.setCell {a w:World} (h:Gr a w) {p:Addr} (hp:a.heap.size≤p.block) (u:Value):Gr a (w.setCell p u):=Below.setCell h hp u
theorem Gr.trans {a b c:World} (h:Gr a b) (k:Gr b c):Gr a c:=Below.trans h (Below.mono k h.size)
theorem gq {a b:World} (h:Gr a b:=by repeat (first|exact Gr.refl _|refine Gr.alloc ?_ _|refine Gr.drew ?_|refine Gr.setCell ?_ (by first|(simp;done)|(simp;omega)|omega) _|refine Gr.trans ?_ (by assumption))):Gr a b:=h
theorem Gr.cells {W w1:World} (hb:Gr W w1):(∀b o,b<W.heap.size→w1.cell? ⟨b,o,none⟩=W.cell? ⟨b,o,none⟩)∧(∀b o,b<W.heap.size→w1.frozen? ⟨b,o,none⟩=W.frozen? ⟨b,o,none⟩):=
 ⟨fun b o h=>Below.cell hb (p:=⟨b,o,none⟩) h,fun b o h=>Below.frozen hb (p:=⟨b,o,none⟩) h⟩
structure Vl where
 ok:Bool
 n:Int
def isB (a:Vl):Bool:=bif a.ok then (decide (-4611686018427387904≤a.n)&&decide (a.n≤4611686018427387904)) else a.n==0
def knB (a:Vl):Bool:=a.ok&&isB a
def ofV (n:Int):Vl:=bif isB ⟨true,n⟩ then ⟨true,n⟩ else ⟨false,0⟩
def intV (n:Int):Vl:=bif decide (-4611686018427≤n)&&decide (n≤4611686018427) then ofV (n*1000000) else ⟨false,0⟩
def sumV (a b:Vl):Vl:=bif knB a&&knB b then ofV (a.n+b.n) else ⟨false,0⟩
def addV (l:List Vl):Vl:=l.foldl sumV (ofV 0)
def subV (a b:Vl):Vl:=bif knB a&&knB b then ofV (a.n-b.n) else ⟨false,0⟩
def lessB (a b:Vl):Bool:=knB a&&knB b&&decide (a.n<b.n)
theorem isB_iff (ok:Bool) (n:Int):isB ⟨ok,n⟩=true↔(if ok=true then -4611686018427387904≤n∧n≤4611686018427387904 else n=0):=by
 cases ok<;>simp[isB]
theorem knB_iff (a:Vl):knB a=true↔a.ok=true∧ -4611686018427387904≤a.n∧a.n≤4611686018427387904:=by
 obtain ⟨ok,n⟩:=a
 cases ok<;>simp[knB,isB]
theorem knB_lo {a:Vl} (h:knB a=true): -4611686018427387904≤a.n:=((knB_iff a).1 h).2.1
theorem knB_hi {a:Vl} (h:knB a=true):a.n≤4611686018427387904:=((knB_iff a).1 h).2.2
theorem knB_ok {a:Vl} (h:knB a=true):a.ok=true:=((knB_iff a).1 h).1
theorem ofV_in {n:Int} (h: -4611686018427387904≤n) (h':n≤4611686018427387904):ofV n=⟨true,n⟩:=by simp[ofV,isB,h,h']
theorem ofV_hi {n:Int} (h:4611686018427387904<n):ofV n=⟨false,0⟩:=by
 have:¬n≤4611686018427387904:=by omega
 simp[ofV,isB,this]
theorem ofV_lo {n:Int} (h:n < -4611686018427387904):ofV n=⟨false,0⟩:=by
 have:¬ -4611686018427387904≤n:=by omega
 simp[ofV,isB,this]
theorem ofV_isB (n:Int):isB (ofV n)=true:=by
 unfold ofV
 cases h:isB ⟨true,n⟩
 ·
  rfl
 ·
  exact h
theorem Pu:(∀(t:Array Value) (f:List Deferred) (d:Tmp) (v:Value),Act.put ⟨t,f⟩ (some d) v=⟨t.setIfInBounds d v,f⟩)∧(∀(a:Act) (v:Value),a.put none v=a)∧(∀(l:List Value) (i:Nat) (x:Value),l.toArray.setIfInBounds i x=(l.set i x).toArray)
 ∧ (∀(x y:Value) (l:List Value),(x::l).set 0 y=y::l)∧(∀(x y:Value) (l:List Value) (n:Nat),(x::l).set (n+1) y=x::l.set n y):=
 ⟨fun _ _ _ _=>rfl,fun _ _=>rfl,fun l i x=>List.setIfInBounds_toArray l i x,fun _ _ _=>rfl,fun _ _ _ _=>rfl⟩
theorem is_any (ok:Bool) (n:Int) (w:World) :
  Calls Tryz.prog 22 #[.agg #[.bool ok, .int .i64 n]] w fun e w'=>e= .returned (.bool (isB ⟨ok,n⟩))∧Gr w w':=by
 cases ok <;>
 ·
  go_enter Tryz.func22,Tryz.ntmps22
  go_wp2
  all_goals (go_ret;exact ⟨by simp[isB, *]<;>omega,gq⟩)
theorem ris_any (ok:Bool) (n:Int) (w:World) :
  Calls Tryz.prog 62 #[.agg #[.bool ok, .int .i64 n]] w fun e w'=>e= .returned (.bool (isB ⟨ok,n⟩))∧Gr w w':=by
 cases ok <;>
 ·
  go_enter Tryz.func62,Tryz.ntmps62
  go_wp2
  all_goals (go_ret;exact ⟨by simp[isB, *]<;>omega,gq⟩)
theorem of_any (n:Int) (w:World) :
  Calls Tryz.prog 123 #[.int .i64 n] w fun e w'=>e= .returned (.agg #[.bool (ofV n).ok, .int .i64 (ofV n).n])∧Gr w w':=by
 go_enter Tryz.func123,Tryz.ntmps123
 go_wp2_with (go_at_call 22;refine (is_any true n _).mono ?_;rintro e w1 ⟨rfl,hg⟩;obtain ⟨hc,hf⟩:=hg.cells;have hz:=hg.size)
 all_goals
  have q0:w1.cell? ⟨w.heap.size,0,none⟩=some (.bool false):=by go_simp
  have q1:w1.cell? ⟨w.heap.size,1,none⟩=some (.int .i64 0):=by go_simp
  exact bodyPost_ret (v:= .agg #[.bool (ofV n).ok, .int .i64 (ofV n).n]) (by simp[results,Tryz.results123,go_sem,ofV, *]) rfl ⟨rfl,gq⟩
theorem rof_any (n:Int) (w:World) :
  Calls Tryz.prog 39 #[.int .i64 n] w fun e w'=>e= .returned (.agg #[.bool (ofV n).ok, .int .i64 (ofV n).n])∧Gr w w':=by
 by_cases h1:n < -4611686018427387904
 ·
  have hv:=ofV_lo h1
  rw[hv];clear hv
  go_enter Tryz.func39,Tryz.ntmps39
  go_wp2
  exact bodyPost_ret (v:= .agg #[.bool false, .int .i64 0]) (by simp[results,Tryz.results39,go_sem]) rfl ⟨rfl,gq⟩
 ·
  by_cases h2:4611686018427387904<n
  ·
   have hv:=ofV_hi h2
   rw[hv];clear hv
   go_enter Tryz.func39,Tryz.ntmps39
   go_wp2
   exact bodyPost_ret (v:= .agg #[.bool false, .int .i64 0]) (by simp[results,Tryz.results39,go_sem]) rfl ⟨rfl,gq⟩
  ·
   have hv:=ofV_in (n:=n) (by omega) (by omega)
   rw[hv];clear hv
   go_enter Tryz.func39,Tryz.ntmps39
   go_wp2
   exact bodyPost_ret (v:= .agg #[.bool true, .int .i64 n]) (by simp[results,Tryz.results39,go_sem]) rfl ⟨rfl,gq⟩
theorem int_any (n:Int) (w:World) :
  Calls Tryz.prog 102 #[.int .i64 n] w fun e w'=>e= .returned (.agg #[.bool (intV n).ok, .int .i64 (intV n).n])∧Gr w w':=by
 by_cases h1:n < -4611686018427
 ·
  have hv:intV n=⟨false,0⟩:=by
   have:¬ -4611686018427≤n:=by omega
   simp[intV,this]
  rw[hv];clear hv
  go_enter Tryz.func102,Tryz.ntmps102
  go_wp2
  exact bodyPost_ret (v:= .agg #[.bool false, .int .i64 0]) (by simp[results,Tryz.results102,go_sem]) rfl ⟨rfl,gq⟩
 ·
  by_cases h2:4611686018427<n
  ·
   have hv:intV n=⟨false,0⟩:=by
    have:¬n≤4611686018427:=by omega
    simp[intV,this]
   rw[hv];clear hv
   go_enter Tryz.func102,Tryz.ntmps102
   go_wp2
   exact bodyPost_ret (v:= .agg #[.bool false, .int .i64 0]) (by simp[results,Tryz.results102,go_sem]) rfl ⟨rfl,gq⟩
  ·
   have hv:intV n=ofV (n*1000000):=by
    have a1: -4611686018427≤n:=by omega
    have a2:n≤4611686018427:=by omega
    simp[intV,a1,a2]
   rw[hv];clear hv
   go_enter Tryz.func102,Tryz.ntmps102
   go_wp2_with (go_at_call 123;refine (of_any (n*1000000) _).mono ?_;rintro e w1 ⟨rfl,hg⟩;obtain ⟨hc,hf⟩:=hg.cells;have hz:=hg.size)
   have q0:w1.cell? ⟨w.heap.size,0,none⟩=some (.bool false):=by go_simp
   have q1:w1.cell? ⟨w.heap.size,1,none⟩=some (.int .i64 0):=by go_simp
   exact bodyPost_ret (v:= .agg #[.bool (ofV (n*1000000)).ok, .int .i64 (ofV (n*1000000)).n]) (by simp[results,Tryz.results102,go_sem, *]) rfl ⟨rfl,gq⟩
theorem rint_any (n:Int) (w:World) :
  Calls Tryz.prog 17 #[.int .i64 n] w fun e w'=>e= .returned (.agg #[.bool (intV n).ok, .int .i64 (intV n).n])∧Gr w w':=by
 by_cases h1:n < -4611686018427
 ·
  have hv:intV n=⟨false,0⟩:=by
   have:¬ -4611686018427≤n:=by omega
   simp[intV,this]
  rw[hv];clear hv
  go_enter Tryz.func17,Tryz.ntmps17
  go_wp2
  exact bodyPost_ret (v:= .agg #[.bool false, .int .i64 0]) (by simp[results,Tryz.results17,go_sem]) rfl ⟨rfl,gq⟩
 ·
  by_cases h2:4611686018427<n
  ·
   have hv:intV n=⟨false,0⟩:=by
    have:¬n≤4611686018427:=by omega
    simp[intV,this]
   rw[hv];clear hv
   go_enter Tryz.func17,Tryz.ntmps17
   go_wp2
   exact bodyPost_ret (v:= .agg #[.bool false, .int .i64 0]) (by simp[results,Tryz.results17,go_sem]) rfl ⟨rfl,gq⟩
  ·
   have hv:intV n=ofV (n*1000000):=by
    have a1: -4611686018427≤n:=by omega
    have a2:n≤4611686018427:=by omega
    simp[intV,a1,a2]
   rw[hv];clear hv
   go_enter Tryz.func17,Tryz.ntmps17
   go_wp2_with (go_at_call 39;refine (rof_any (n*1000000) _).mono ?_;rintro e w1 ⟨rfl,hg⟩;obtain ⟨hc,hf⟩:=hg.cells;have hz:=hg.size)
   have q0:w1.cell? ⟨w.heap.size,0,none⟩=some (.bool false):=by go_simp
   have q1:w1.cell? ⟨w.heap.size,1,none⟩=some (.int .i64 0):=by go_simp
   exact bodyPost_ret (v:= .agg #[.bool (ofV (n*1000000)).ok, .int .i64 (ofV (n*1000000)).n]) (by simp[results,Tryz.results17,go_sem, *]) rfl ⟨rfl,gq⟩
theorem kn_any (a:Vl) (w:World) :
  Calls Tryz.prog 91 #[.agg #[.bool a.ok, .int .i64 a.n]] w fun e w'=>e= .returned (.bool (knB a))∧Gr w w':=by
 obtain ⟨ok,n⟩:=a
 cases ok
 ·
  go_enter Tryz.func91,Tryz.ntmps91
  go_wp2
  go_ret
  exact ⟨by simp[knB],gq⟩
 ·
  go_enter Tryz.func91,Tryz.ntmps91
  go_wp2_with (go_at_call 22;refine (is_any _ _ _).mono ?_;rintro e w1 ⟨rfl,hg⟩;obtain ⟨hc,hf⟩:=hg.cells;have hz:=hg.size)
  go_ret
  exact ⟨by simp[knB],gq⟩
theorem rkn_any (a:Vl) (w:World) :
  Calls Tryz.prog 65 #[.agg #[.bool a.ok, .int .i64 a.n]] w fun e w'=>e= .returned (.bool (knB a))∧Gr w w':=by
 obtain ⟨ok,n⟩:=a
 cases ok
 ·
  go_enter Tryz.func65,Tryz.ntmps65
  go_wp2
  go_ret
  exact ⟨by simp[knB],gq⟩
 ·
  go_enter Tryz.func65,Tryz.ntmps65
  go_wp2_with (go_at_call 62;refine (ris_any _ _ _).mono ?_;rintro e w1 ⟨rfl,hg⟩;obtain ⟨hc,hf⟩:=hg.cells;have hz:=hg.size)
  go_ret
  exact ⟨by simp[knB],gq⟩
theorem two_any (a b:Vl) (w:World) :
  Calls Tryz.prog 96 #[.agg #[.bool a.ok, .int .i64 a.n], .agg #[.bool b.ok, .int .i64 b.n]] w fun e w'=>e= .returned (.bool (knB a&&knB b))∧Gr w w':=by
 cases ha:knB a
 ·
  go_enter Tryz.func96,Tryz.ntmps96
  go_wp2_with (go_at_call 65;refine (rkn_any a _).mono ?_;rintro e w1 ⟨rfl,hg⟩;obtain ⟨hc,hf⟩:=hg.cells;have hz:=hg.size)
  go_ret
  exact ⟨by simp,gq⟩
 ·
  go_enter Tryz.func96,Tryz.ntmps96
  go_wp2_with fail
  refine (rkn_any a _).mono ?_;rintro e w1 ⟨rfl,hg⟩;obtain ⟨hc,hf⟩:=hg.cells;have hz:=hg.size
  go_wp2_with (go_at_call 65;refine (rkn_any b _).mono ?_;rintro e w1 ⟨rfl,hg⟩;obtain ⟨hc,hf⟩:=hg.cells;have hz:=hg.size)
  go_ret
  exact ⟨by simp,gq⟩
theorem add_blk (a:Addr) (n:Nat):(a.add n).block=a.block:=by unfold Addr.add;split<;>rfl
theorem add_two (a:Addr) (i j:Nat):(a.add i).add j=a.add (i+j):=by
 unfold Addr.add
 rcases Nat.eq_zero_or_pos i with hi|hi<;>rcases Nat.eq_zero_or_pos j with hj|hj
 ·
  simp[hi,hj]
 ·
  simp[hi,Nat.ne_of_gt hj]
 ·
  simp[hj]
 ·
  simp[Nat.ne_of_gt hi,Nat.ne_of_gt hj,Nat.add_assoc]
theorem add_next (a:Addr) (i j:Nat):a.add (i+(j+1))=⟨(a.add i).block,(a.add i).off+(j+1),none⟩:=by
 rw[←add_two];rfl
def Rd (w:World) (size:Nat) (A:Option Addr) (n:Nat) (xs:List Value):Prop:=
 xs.length=n*size∧(0<n→∃ad,A=some ad∧ad.block<w.heap.size∧∀j u,xs[j]?=some u→w.cell? (ad.add j)=some u)
theorem Rd.nil (w:World) (size:Nat) (A:Option Addr):Rd w size A 0 []:=⟨by simp,fun h=>absurd h (by omega)⟩
theorem Gr.cell {w w':World} (h:Gr w w') {p:Addr} (hp:p.block<w.heap.size):w'.cell? p=w.cell? p:=Below.cell h hp
theorem Gr.frozen {w w':World} (h:Gr w w') {p:Addr} (hp:p.block<w.heap.size):w'.frozen? p=w.frozen? p:=Below.frozen h hp
theorem Rd.gr {w w':World} {size n:Nat} {A:Option Addr} {xs:List Value} (h:Rd w size A n xs) (g:Gr w w'):Rd w' size A n xs:=
 ⟨h.1,fun hn=>by
  obtain ⟨ad,e,hb,hc⟩:=h.2 hn
  exact ⟨ad,e,Nat.lt_of_lt_of_le hb g.size,fun j u hu=>(g.cell (by rw[add_blk];exact hb)).trans (hc j u hu)⟩⟩
def vcells (l:List Vl):List Value:=l.flatMap fun v=>[.bool v.ok, .int .i64 v.n]
theorem vcells_cons (v:Vl) (l:List Vl):vcells (v::l)= .bool v.ok :: .int .i64 v.n::vcells l:=rfl
theorem vcells_append (l m:List Vl):vcells (l++m)=vcells l++vcells m:=by simp[vcells]
theorem vcells_length (l:List Vl):(vcells l).length=l.length*2:=by
 induction l with
 | nil=>rfl
 | cons v l ih=>rw[vcells_cons];simp only[List.length_cons,ih];omega
theorem vcells_at (l:List Vl):∀(k:Nat) (h:k<l.length),(vcells l)[k*2]?=some (.bool l[k].ok)∧(vcells l)[k*2+1]?=some (.int .i64 l[k].n):=by
 induction l with
 | nil=>intro k h;simp at h
 | cons v l ih=>
  intro k h
  rw[vcells_cons]
  match k,h with
  | 0,_=>exact ⟨rfl,rfl⟩
  | k+1,h=>
   have hk:k<l.length:=by simp only[List.length_cons] at h;omega
   have e:(k+1)*2=k*2+1+1:=by omega
   rw[e]
   simp only[List.getElem?_cons_succ,List.getElem_cons_succ]
   exact ih k hk
def Rv (w:World) (A:Option Addr) (l:List Vl):Prop:=Rd w 2 A l.length (vcells l)
theorem Rv.nil (w:World) (A:Option Addr):Rv w A []:=Rd.nil w 2 A
theorem Rv.gr {w w':World} {A:Option Addr} {l:List Vl} (h:Rv w A l) (g:Gr w w'):Rv w' A l:=Rd.gr h g
theorem Rv.at {w:World} {A:Option Addr} {l:List Vl} (h:Rv w A l) {k:Nat} (hk:k<l.length) :
  ∃ad:Addr,A=some ad∧ad.block<w.heap.size∧w.cell? (ad.add (k*2))=some (.bool l[k].ok)∧w.cell? ⟨(ad.add (k*2)).block,(ad.add (k*2)).off+1,none⟩=some (.int .i64 l[k].n):=by
 obtain ⟨ad,e,hb,hc⟩:=h.2 (by omega)
 exact ⟨ad,e,hb,hc _ _ (vcells_at l k hk).1,(congrArg w.cell? (add_next ad (k*2) 0)).symm.trans (hc _ _ (vcells_at l k hk).2)⟩
section
variable {P:Program} {w:World}
theorem append_nil_run (base:Nat) (t ty e:TypeId) (i:TypeInfo) (size:Nat) (ht:P.underlying t=some (.slice e)) (hi:P.info? e=some i)
  {v:Value} {n:Nat} {xs:List Value} (hown:w.ownsRow base e size v n xs) (c:Nat):(Builtin.append_ #[t,t] ty #[v, .slice none 0 c]).run P w= .ok v w:=by
 obtain ⟨_,⟨hv,_⟩|⟨g,cap,cur,hv,_,_,hnc,_⟩⟩:=hown<;>subst hv
 ·
  simp[Builtin.append_,run_underlying ht,sizeOf,typeInfo,hi,Builtin.lenOf,Builtin.firstCells]
 ·
  simp[Builtin.append_,run_underlying ht,sizeOf,typeInfo,hi,Builtin.lenOf,Builtin.firstCells,hnc,storeCells]
theorem wpList_append_rd {ops:Array Oper} {rest:List Oper} {o:Oper} {a:Act} {Q:Exit→Act→World→Prop} (hgd:o.guard=none) (s x:Operand) (t:TypeId)
  (ho:o.op= .call {callee:= .builtin .append,args:= #[s,x],argTypes:= #[t,t]})
  (base:Nat) (e:TypeId) (i:TypeInfo) (z:Value) (size bytes:Nat) (ht:P.underlying t=some (.slice e)) (hi:P.info? e=some i) (hz:i.zero=some z)
  (hsize:i.size=size) (hby:i.bytes=bytes) (hzs:z.cells.size=size) (hsz:0<size)
  (v:Value) (n:Nat) (xs:List Value) (hs:a.eval s=v) (hown:w.ownsRow base e size v n xs)
  (A:Option Addr) (m c:Nat) (news:List Value) (hx:a.eval x= .slice A m c) (hr:Rd w size A m news) (h1:∀u∈news,u.oneCell'=true)
  (h63:n+m≤maxLen) (hbytes:(n+m)*bytes≤140737488355328) (hbase:base≤w.heap.size)
  (h:∀v' w',w'.ownsRow base e size v' (n+m) (xs++news)→w.grownBy w' v.ownBlock→(v'.ownBlock=v.ownBlock∨v'.ownBlock=some w.heap.size)→wpList P ops Q rest (a.put o.dst v') w'):wpList P ops Q (o::rest) a w:=by
 have hrun:∃v' w',(Builtin.append_ #[t,t] o.type #[v, .slice A m c]).run P w= .ok v' w'∧w'.ownsRow base e size v' (n+m) (xs++news)∧w.grownBy w' v.ownBlock∧(v'.ownBlock=v.ownBlock∨v'.ownBlock=some w.heap.size):=by
  rcases Nat.eq_zero_or_pos m with hm|hm
  ·
   subst hm
   have hn:news=[]:=List.eq_nil_of_length_eq_zero (by simpa using hr.1)
   subst hn
   cases A with
   | none=>exact ⟨v,w,append_nil_run base t o.type e i size ht hi hown c,by simpa using hown,World.grownBy.refl w _, .inl rfl⟩
   | some ad=>
    obtain ⟨v',w',k1,k2,k3,_,k5⟩:=run_append_own_at (P:=P) w base t o.type e i z size bytes ht hi hz hsize hby hzs hsz v n xs hown ad 0 c [] (by simp) (by intro j u hu;simp at hu) (by intro u hu;simp at hu) h63 hbytes hbase
    exact ⟨v',w',k1,k2,k3,k5⟩
  ·
   obtain ⟨ad,rfl,_,hc⟩:=hr.2 hm
   obtain ⟨v',w',k1,k2,k3,_,k5⟩:=run_append_own_at (P:=P) w base t o.type e i z size bytes ht hi hz hsize hby hzs hsz v n xs hown ad m c news hr.1 hc h1 h63 hbytes hbase
   exact ⟨v',w',k1,k2,k3,k5⟩
 obtain ⟨v',w',hr1,h2,h3,h4⟩:=hrun
 refine wpList_plain hgd fun K hK=>?_
 unfold Oper.wp execOp
 simp only[ho,resolve,invoke,builtin,Sem.run_bind,Sem.run_pure,Result.andThen_ok,List.map_toArray,List.map_cons,List.map_nil,hs,hx,hr1]
 exact hK _ _ (h v' w' h2 h3 h4)
end
theorem vcells_one (l:List Vl):∀u∈vcells l,u.oneCell'=true:=by
 intro u hu
 simp only[vcells,List.mem_flatMap] at hu
 obtain ⟨v,_,hv⟩:=hu
 simp at hv
 rcases hv with rfl|rfl<;>rfl
theorem Rd.own {w:World} {base:Nat} {e:TypeId} {size n c:Nat} {A:Option Addr} {xs:List Value} (h:w.ownsRow base e size (.slice A n c) n xs):Rd w size A n xs:=by
 refine ⟨h.1,fun hn=>?_⟩
 have h':=h
 obtain ⟨_,⟨hv,h0⟩|⟨g,cap,cur,hv,_,hh,_,_,_,_⟩⟩:=h'
 ·
  omega
 ·
  have hA:A=some ⟨g,0,none⟩:=by injection hv
  subst hA
  refine ⟨_,rfl,?_,h.cells (g:=g) rfl⟩
  rcases Nat.lt_or_ge g w.heap.size with hlt|hge
  ·
   exact hlt
  ·
   rw[Array.getElem?_eq_none hge] at hh;cases hh
theorem own_form {w:World} {base:Nat} {e:TypeId} {size n:Nat} {v:Value} {xs:List Value} (h:w.ownsRow base e size v n xs):∃A c,v= .slice A n c:=by
 obtain ⟨_,⟨hv,h0⟩|⟨g,cap,cur,hv,_⟩⟩:=h
 ·
  subst h0;exact ⟨none,0,hv⟩
 ·
  exact ⟨_,_,hv⟩
theorem Gr.grown {w0 w w':World} {row:Option Nat} (h:Gr w0 w) (hg:w.grownBy w' row) (hr:∀k,row=some k→w0.heap.size≤k):Gr w0 w':=Below.grown h hg h.size hr
def kn (l:List Vl):List Vl:=l.filter knB
theorem kn_take {l:List Vl} {k:Nat} (h:k<l.length):kn (l.take (k+1))=kn (l.take k)++(if knB l[k]=true then [l[k]] else []):=by
 unfold kn
 rw[List.take_succ_eq_append_getElem h,List.filter_append]
 simp[List.filter_cons]
theorem kn_len (l:List Vl):(kn l).length≤l.length:=List.length_filter_le _ _
theorem kn_take_len (l:List Vl) (k:Nat):(kn (l.take k)).length≤l.length:=Nat.le_trans (kn_len _) (List.length_take_le' k l)
theorem info_val:(Tryz.prog.info? 25).map (fun i=>(i.zero,i.size,i.bytes))=some (some (.agg #[.bool false, .int .i64 0]),2,16):=by kernel_rfl
def RetV (l:List Vl) (w:World) (e:Ending) (w':World):Prop:=∃A c,e= .returned (.slice A l.length c)∧Rv w' A l∧Gr w w'
theorem Rv.new {W:World} {B:Nat} (hB:B=W.heap.size) (T:TypeId) (l:List Vl):Rv (W.alloc (.cells (vcells l).toArray T)) (some ⟨B,0,none⟩) l:=by
 subst hB
 refine ⟨vcells_length l,fun _=>⟨_,rfl,by simp,fun j u hu=>?_⟩⟩
 have e:(⟨W.heap.size,0,none⟩:Addr).add j=⟨W.heap.size,j,none⟩:=by
  unfold Addr.add;split
  ·
   rename_i h;subst h;rfl
  ·
   rw[Nat.zero_add]
 rw[e]
 exact (cell_of_row _ _ _ _ _ _ (heap_alloc_new W _)).trans (by simpa using hu)
theorem own_gr {w w':World} {base:Nat} {e:TypeId} {size n:Nat} {v:Value} {xs:List Value} (h:w.ownsRow base e size v n xs) (g:Gr w w'):w'.ownsRow base e size v n xs:=by
 obtain ⟨h1,⟨hv,h0⟩|⟨g',cap,cur,hv,hb,hh,h2⟩⟩:=h
 ·
  exact ⟨h1, .inl ⟨hv,h0⟩⟩
 ·
  refine ⟨h1, .inr ⟨g',cap,cur,hv,hb,?_,h2⟩⟩
  have hlt:g'<w.heap.size:=by
   rcases Nat.lt_or_ge g' w.heap.size with hlt|hge
   ·
    exact hlt
   ·
    rw[Array.getElem?_eq_none hge] at hh;cases hh
  exact (Below.block g g' hlt).trans hh
theorem known_vals_any (A:Option Addr) (c:Nat) (l:List Vl) (w:World) (hl:l.length≤1000000) (hr:Rv w A l) :
  Calls Tryz.prog 60 #[.slice A l.length c] w (RetV (kn l) w):=by
 have hl':(l.length:Int)≤1000000:=by omega
 obtain ⟨i0,hi,hz0,hz1,hz2⟩:=info_parts info_val
 go_enter Tryz.func60,Tryz.ntmps60
 go_wp2
 go_loopw [3,8] (fun v i wr=>∃k:Nat,k≤l.length∧i= .int .i64 k∧Gr w wr∧wr.ownsRow w.heap.size 25 2 v (kn (l.take k)).length (vcells (kn (l.take k))))
  (fun _ i _=>l.length-(intOf i).toNat)
 case atStart=>exact ⟨0,Nat.zero_le _,rfl,Gr.refl _,World.ownsRow_nil _ _ _ _⟩
 case round=>
  obtain ⟨k,hk,rfl,hgr,hown⟩:=hrel
  by_cases hlt:k<l.length
  ·
   obtain ⟨ad,rfl,hb,hx0,hx1⟩:=(hr.gr hgr).at hlt
   have Ht:=Lib.hid (kn_take hlt)
   have hkl:=kn_take_len l k
   cases hok:l[k].ok
   ·
    have hkn:knB l[k]=false:=by simp[knB,hok]
    rw[hkn] at Ht
    go_wp2
    go_roundw
    case rel=>exact ⟨k+1,by omega,by go_num,gq,by rw[Ht.out];simpa using hown.alloc _⟩
    case measure=>simp[intOf];omega
   ·
    cases hkn:knB l[k]
    ·
     have hib:isB ⟨true,l[k].n⟩=false:=by
      have:knB l[k]=(l[k].ok&&isB ⟨l[k].ok,l[k].n⟩):=rfl
      rw[hok,Bool.true_and] at this;rw[←this];exact hkn
     rw[hkn] at Ht
     go_wp2_with fail
     refine (is_any true l[k].n _).mono ?_;rintro e w1 ⟨rfl,hg⟩;obtain ⟨hc,hf⟩:=hg.cells
     have hown1:=own_gr (hown.alloc _) hg
     clear hkn
     go_wp2
     go_roundw
     case rel=>exact ⟨k+1,by omega,by go_num,gq,by rw[Ht.out];simpa using hown1⟩
     case measure=>simp[intOf];omega
    ·
     have hib:isB ⟨true,l[k].n⟩=true:=by
      have:knB l[k]=(l[k].ok&&isB ⟨l[k].ok,l[k].n⟩):=rfl
      rw[hok,Bool.true_and] at this;rw[←this];exact hkn
     rw[hkn] at Ht
     go_wp2_with fail
     refine (is_any true l[k].n _).mono ?_;rintro e w1 ⟨rfl,hg⟩;obtain ⟨hc,hf⟩:=hg.cells
     have z1:=hg.size
     simp at z1
     have hown1:=own_gr (hown.alloc _) hg
     have hgw1:Gr w w1:=gq
     have z2:=hgw1.size
     have hrx:=Rv.new (W:=w1) rfl 25 [l[k]]
     have hv0:=(hown1.alloc (.cells (vcells [l[k]]).toArray 25))
     have hvl:=hown1.lt
     clear hkn
     go_wp2_with (at_builtin;refine wpList_append_rd rfl (.tmp 18) (.tmp 20) 32 rfl w.heap.size 25 i0 _ 2 16 Tryz.underlying32 hi hz0 hz1 hz2 rfl (by decide) _ _ _ rfl (by rw[←hok];exact hv0) (some ⟨w1.heap.size,0,none⟩) 1 _ (vcells [l[k]]) rfl (by rw[←hok];exact hrx) (vcells_one _) (by unfold maxLen;omega) (by omega) (by simp;omega) ?_;intro v' w2 hown2 hgr2 hat2)
     have hg2:Gr w w2:=Gr.grown (Gr.alloc hgw1 _) hgr2 (fun k hk=>(hvl k hk).1)
     clear hv0 hvl hgr2 hat2 hrx
     go_wp2
     go_roundw
     case rel=>exact ⟨k+1,by omega,by go_num,hg2,by rw[Ht.out];simpa [vcells_append] using hown2⟩
     case measure=>simp[intOf];omega
  ·
   have hkk:k=l.length:=by omega
   subst hkk
   rw[List.take_length] at hown
   obtain ⟨A',c',hv⟩:=own_form hown
   subst hv
   go_wp2
   go_ret
   exact ⟨A',c',rfl,Rd.own hown,hgr⟩
theorem sum_any (a b:Vl) (w:World) :
  Calls Tryz.prog 122 #[.agg #[.bool a.ok, .int .i64 a.n], .agg #[.bool b.ok, .int .i64 b.n]] w fun e w'=>e= .returned (.agg #[.bool (sumV a b).ok, .int .i64 (sumV a b).n])∧Gr w w':=by
 cases ha:knB a
 ·
  have hv:sumV a b=⟨false,0⟩:=by simp[sumV,ha]
  rw[hv];clear hv
  go_enter Tryz.func122,Tryz.ntmps122
  go_wp2_with fail
  refine (kn_any a _).mono ?_;rintro e w1 ⟨rfl,hg⟩;obtain ⟨hc,hf⟩:=hg.cells;have hz:=hg.size;(try simp at hz);have z0:w.heap.size<w1.heap.size:=(by omega);have z1:w.heap.size+1<w1.heap.size:=(by omega);have z2:w.heap.size+1+1<w1.heap.size:=(by omega)
  go_wp2
  have q0:w1.cell? ⟨w.heap.size+1+1,0,none⟩=some (.bool false):=by go_simp
  have q1:w1.cell? ⟨w.heap.size+1+1,1,none⟩=some (.int .i64 0):=by go_simp
  exact bodyPost_ret (v:= .agg #[.bool false, .int .i64 0]) (by simp[results,Tryz.results122,go_sem, *]) rfl ⟨rfl,gq⟩
 cases hb:knB b
 ·
  have hv:sumV a b=⟨false,0⟩:=by simp[sumV,hb]
  rw[hv];clear hv
  go_enter Tryz.func122,Tryz.ntmps122
  go_wp2_with fail
  refine (kn_any a _).mono ?_;rintro e w1 ⟨rfl,hg⟩;obtain ⟨hc,hf⟩:=hg.cells;have hz:=hg.size;(try simp at hz);have z0:w.heap.size<w1.heap.size:=(by omega);have z1:w.heap.size+1<w1.heap.size:=(by omega);have z2:w.heap.size+1+1<w1.heap.size:=(by omega)
  go_wp2_with fail
  refine (kn_any b _).mono ?_;rintro e w1 ⟨rfl,hg⟩;obtain ⟨hc,hf⟩:=hg.cells;have hz:=hg.size;(try simp at hz);have z0:w.heap.size<w1.heap.size:=(by omega);have z1:w.heap.size+1<w1.heap.size:=(by omega);have z2:w.heap.size+1+1<w1.heap.size:=(by omega)
  go_wp2
  have q0:w1.cell? ⟨w.heap.size+1+1,0,none⟩=some (.bool false):=by go_simp
  have q1:w1.cell? ⟨w.heap.size+1+1,1,none⟩=some (.int .i64 0):=by go_simp
  exact bodyPost_ret (v:= .agg #[.bool false, .int .i64 0]) (by simp[results,Tryz.results122,go_sem, *]) rfl ⟨rfl,gq⟩
 have hv:sumV a b=ofV (a.n+b.n):=by simp[sumV,ha,hb]
 rw[hv];clear hv
 have a1:=knB_lo ha
 have a2:=knB_hi ha
 have b1:=knB_lo hb
 have b2:=knB_hi hb
 by_cases hp:0<b.n
 ·
  by_cases ho:4611686018427387904-b.n<a.n
  ·
   have hv:ofV (a.n+b.n)=⟨false,0⟩:=ofV_hi (by omega)
   rw[hv];clear hv
   go_enter Tryz.func122,Tryz.ntmps122
   go_wp2_with fail
   refine (kn_any a _).mono ?_;rintro e w1 ⟨rfl,hg⟩;obtain ⟨hc,hf⟩:=hg.cells;have hz:=hg.size;(try simp at hz);have z0:w.heap.size<w1.heap.size:=(by omega);have z1:w.heap.size+1<w1.heap.size:=(by omega);have z2:w.heap.size+1+1<w1.heap.size:=(by omega)
   go_wp2_with fail
   refine (kn_any b _).mono ?_;rintro e w1 ⟨rfl,hg⟩;obtain ⟨hc,hf⟩:=hg.cells;have hz:=hg.size;(try simp at hz);have z0:w.heap.size<w1.heap.size:=(by omega);have z1:w.heap.size+1<w1.heap.size:=(by omega);have z2:w.heap.size+1+1<w1.heap.size:=(by omega)
   go_wp2
   have q0:w1.cell? ⟨w.heap.size+1+1,0,none⟩=some (.bool false):=by go_simp
   have q1:w1.cell? ⟨w.heap.size+1+1,1,none⟩=some (.int .i64 0):=by go_simp
   exact bodyPost_ret (v:= .agg #[.bool false, .int .i64 0]) (by simp[results,Tryz.results122,go_sem, *]) rfl ⟨rfl,gq⟩
  ·
   have hb0:¬b.n<0:=by omega
   go_enter Tryz.func122,Tryz.ntmps122
   go_wp2_with fail
   refine (kn_any a _).mono ?_;rintro e w1 ⟨rfl,hg⟩;obtain ⟨hc,hf⟩:=hg.cells;have hz:=hg.size;(try simp at hz);have z0:w.heap.size<w1.heap.size:=(by omega);have z1:w.heap.size+1<w1.heap.size:=(by omega);have z2:w.heap.size+1+1<w1.heap.size:=(by omega)
   go_wp2_with fail
   refine (kn_any b _).mono ?_;rintro e w1 ⟨rfl,hg⟩;obtain ⟨hc,hf⟩:=hg.cells;have hz:=hg.size;(try simp at hz);have z0:w.heap.size<w1.heap.size:=(by omega);have z1:w.heap.size+1<w1.heap.size:=(by omega);have z2:w.heap.size+1+1<w1.heap.size:=(by omega)
   go_wp2_with fail
   refine (of_any (a.n+b.n) _).mono ?_;rintro e w1 ⟨rfl,hg⟩;obtain ⟨hc,hf⟩:=hg.cells;have hz:=hg.size;(try simp at hz);have z0:w.heap.size<w1.heap.size:=(by omega);have z1:w.heap.size+1<w1.heap.size:=(by omega);have z2:w.heap.size+1+1<w1.heap.size:=(by omega)
   go_wp2
   have q0:w1.cell? ⟨w.heap.size+1+1,0,none⟩=some (.bool false):=by go_simp
   have q1:w1.cell? ⟨w.heap.size+1+1,1,none⟩=some (.int .i64 0):=by go_simp
   exact bodyPost_ret (v:= .agg #[.bool (ofV (a.n+b.n)).ok, .int .i64 (ofV (a.n+b.n)).n]) (by simp[results,Tryz.results122,go_sem, *]) rfl ⟨rfl,gq⟩
 ·
  by_cases hm:b.n<0
  ·
   by_cases ho:a.n < -4611686018427387904-b.n
   ·
    have hv:ofV (a.n+b.n)=⟨false,0⟩:=ofV_lo (by omega)
    rw[hv];clear hv
    go_enter Tryz.func122,Tryz.ntmps122
    go_wp2_with fail
    refine (kn_any a _).mono ?_;rintro e w1 ⟨rfl,hg⟩;obtain ⟨hc,hf⟩:=hg.cells;have hz:=hg.size;(try simp at hz);have z0:w.heap.size<w1.heap.size:=(by omega);have z1:w.heap.size+1<w1.heap.size:=(by omega);have z2:w.heap.size+1+1<w1.heap.size:=(by omega)
    go_wp2_with fail
    refine (kn_any b _).mono ?_;rintro e w1 ⟨rfl,hg⟩;obtain ⟨hc,hf⟩:=hg.cells;have hz:=hg.size;(try simp at hz);have z0:w.heap.size<w1.heap.size:=(by omega);have z1:w.heap.size+1<w1.heap.size:=(by omega);have z2:w.heap.size+1+1<w1.heap.size:=(by omega)
    go_wp2
    have q0:w1.cell? ⟨w.heap.size+1+1,0,none⟩=some (.bool false):=by go_simp
    have q1:w1.cell? ⟨w.heap.size+1+1,1,none⟩=some (.int .i64 0):=by go_simp
    exact bodyPost_ret (v:= .agg #[.bool false, .int .i64 0]) (by simp[results,Tryz.results122,go_sem, *]) rfl ⟨rfl,gq⟩
   ·
    go_enter Tryz.func122,Tryz.ntmps122
    go_wp2_with fail
    refine (kn_any a _).mono ?_;rintro e w1 ⟨rfl,hg⟩;obtain ⟨hc,hf⟩:=hg.cells;have hz:=hg.size;(try simp at hz);have z0:w.heap.size<w1.heap.size:=(by omega);have z1:w.heap.size+1<w1.heap.size:=(by omega);have z2:w.heap.size+1+1<w1.heap.size:=(by omega)
    go_wp2_with fail
    refine (kn_any b _).mono ?_;rintro e w1 ⟨rfl,hg⟩;obtain ⟨hc,hf⟩:=hg.cells;have hz:=hg.size;(try simp at hz);have z0:w.heap.size<w1.heap.size:=(by omega);have z1:w.heap.size+1<w1.heap.size:=(by omega);have z2:w.heap.size+1+1<w1.heap.size:=(by omega)
    go_wp2_with fail
    refine (of_any (a.n+b.n) _).mono ?_;rintro e w1 ⟨rfl,hg⟩;obtain ⟨hc,hf⟩:=hg.cells;have hz:=hg.size;(try simp at hz);have z0:w.heap.size<w1.heap.size:=(by omega);have z1:w.heap.size+1<w1.heap.size:=(by omega);have z2:w.heap.size+1+1<w1.heap.size:=(by omega)
    go_wp2
    have q0:w1.cell? ⟨w.heap.size+1+1,0,none⟩=some (.bool false):=by go_simp
    have q1:w1.cell? ⟨w.heap.size+1+1,1,none⟩=some (.int .i64 0):=by go_simp
    exact bodyPost_ret (v:= .agg #[.bool (ofV (a.n+b.n)).ok, .int .i64 (ofV (a.n+b.n)).n]) (by simp[results,Tryz.results122,go_sem, *]) rfl ⟨rfl,gq⟩
  ·
   go_enter Tryz.func122,Tryz.ntmps122
   go_wp2_with fail
   refine (kn_any a _).mono ?_;rintro e w1 ⟨rfl,hg⟩;obtain ⟨hc,hf⟩:=hg.cells;have hz:=hg.size;(try simp at hz);have z0:w.heap.size<w1.heap.size:=(by omega);have z1:w.heap.size+1<w1.heap.size:=(by omega);have z2:w.heap.size+1+1<w1.heap.size:=(by omega)
   go_wp2_with fail
   refine (kn_any b _).mono ?_;rintro e w1 ⟨rfl,hg⟩;obtain ⟨hc,hf⟩:=hg.cells;have hz:=hg.size;(try simp at hz);have z0:w.heap.size<w1.heap.size:=(by omega);have z1:w.heap.size+1<w1.heap.size:=(by omega);have z2:w.heap.size+1+1<w1.heap.size:=(by omega)
   go_wp2_with fail
   refine (of_any (a.n+b.n) _).mono ?_;rintro e w1 ⟨rfl,hg⟩;obtain ⟨hc,hf⟩:=hg.cells;have hz:=hg.size;(try simp at hz);have z0:w.heap.size<w1.heap.size:=(by omega);have z1:w.heap.size+1<w1.heap.size:=(by omega);have z2:w.heap.size+1+1<w1.heap.size:=(by omega)
   go_wp2
   have q0:w1.cell? ⟨w.heap.size+1+1,0,none⟩=some (.bool false):=by go_simp
   have q1:w1.cell? ⟨w.heap.size+1+1,1,none⟩=some (.int .i64 0):=by go_simp
   exact bodyPost_ret (v:= .agg #[.bool (ofV (a.n+b.n)).ok, .int .i64 (ofV (a.n+b.n)).n]) (by simp[results,Tryz.results122,go_sem, *]) rfl ⟨rfl,gq⟩
theorem plus_any (a b:Vl) (w:World) :
  Calls Tryz.prog 103 #[.agg #[.bool a.ok, .int .i64 a.n], .agg #[.bool b.ok, .int .i64 b.n]] w fun e w'=>e= .returned (.agg #[.bool (sumV a b).ok, .int .i64 (sumV a b).n])∧Gr w w':=by
 cases hab:(knB a&&knB b)
 ·
  have hv:sumV a b=⟨false,0⟩:=by simp[sumV,hab]
  rw[hv];clear hv
  go_enter Tryz.func103,Tryz.ntmps103
  go_wp2_with fail
  refine (two_any a b _).mono ?_;rintro e w1 ⟨rfl,hg⟩;obtain ⟨hc,hf⟩:=hg.cells;have hz:=hg.size;(try simp at hz);have z0:w.heap.size<w1.heap.size:=(by omega);have z1:w.heap.size+1<w1.heap.size:=(by omega);have z2:w.heap.size+1+1<w1.heap.size:=(by omega)
  go_wp2
  have q0:w1.cell? ⟨w.heap.size+1+1,0,none⟩=some (.bool false):=by go_simp
  have q1:w1.cell? ⟨w.heap.size+1+1,1,none⟩=some (.int .i64 0):=by go_simp
  exact bodyPost_ret (v:= .agg #[.bool false, .int .i64 0]) (by simp[results,Tryz.results103,go_sem, *]) rfl ⟨rfl,gq⟩
 have hv:sumV a b=ofV (a.n+b.n):=by simp[sumV,hab]
 rw[hv];clear hv
 have ha:knB a=true:=by simp at hab;exact hab.1
 have hb:knB b=true:=by simp at hab;exact hab.2
 have a1:=knB_lo ha
 have a2:=knB_hi ha
 have b1:=knB_lo hb
 have b2:=knB_hi hb
 by_cases hp:0<b.n
 ·
  by_cases ho:4611686018427387904-b.n<a.n
  ·
   have hv:ofV (a.n+b.n)=⟨false,0⟩:=ofV_hi (by omega)
   rw[hv];clear hv
   go_enter Tryz.func103,Tryz.ntmps103
   go_wp2_with fail
   refine (two_any a b _).mono ?_;rintro e w1 ⟨rfl,hg⟩;obtain ⟨hc,hf⟩:=hg.cells;have hz:=hg.size;(try simp at hz);have z0:w.heap.size<w1.heap.size:=(by omega);have z1:w.heap.size+1<w1.heap.size:=(by omega);have z2:w.heap.size+1+1<w1.heap.size:=(by omega)
   go_wp2
   have q0:w1.cell? ⟨w.heap.size+1+1,0,none⟩=some (.bool false):=by go_simp
   have q1:w1.cell? ⟨w.heap.size+1+1,1,none⟩=some (.int .i64 0):=by go_simp
   exact bodyPost_ret (v:= .agg #[.bool false, .int .i64 0]) (by simp[results,Tryz.results103,go_sem, *]) rfl ⟨rfl,gq⟩
  ·
   have hb0:¬b.n<0:=by omega
   go_enter Tryz.func103,Tryz.ntmps103
   go_wp2_with fail
   refine (two_any a b _).mono ?_;rintro e w1 ⟨rfl,hg⟩;obtain ⟨hc,hf⟩:=hg.cells;have hz:=hg.size;(try simp at hz);have z0:w.heap.size<w1.heap.size:=(by omega);have z1:w.heap.size+1<w1.heap.size:=(by omega);have z2:w.heap.size+1+1<w1.heap.size:=(by omega)
   go_wp2_with fail
   refine (rof_any (a.n+b.n) _).mono ?_;rintro e w1 ⟨rfl,hg⟩;obtain ⟨hc,hf⟩:=hg.cells;have hz:=hg.size;(try simp at hz);have z0:w.heap.size<w1.heap.size:=(by omega);have z1:w.heap.size+1<w1.heap.size:=(by omega);have z2:w.heap.size+1+1<w1.heap.size:=(by omega)
   go_wp2
   have q0:w1.cell? ⟨w.heap.size+1+1,0,none⟩=some (.bool false):=by go_simp
   have q1:w1.cell? ⟨w.heap.size+1+1,1,none⟩=some (.int .i64 0):=by go_simp
   exact bodyPost_ret (v:= .agg #[.bool (ofV (a.n+b.n)).ok, .int .i64 (ofV (a.n+b.n)).n]) (by simp[results,Tryz.results103,go_sem, *]) rfl ⟨rfl,gq⟩
 ·
  by_cases hm:b.n<0
  ·
   by_cases ho:a.n < -4611686018427387904-b.n
   ·
    have hv:ofV (a.n+b.n)=⟨false,0⟩:=ofV_lo (by omega)
    rw[hv];clear hv
    go_enter Tryz.func103,Tryz.ntmps103
    go_wp2_with fail
    refine (two_any a b _).mono ?_;rintro e w1 ⟨rfl,hg⟩;obtain ⟨hc,hf⟩:=hg.cells;have hz:=hg.size;(try simp at hz);have z0:w.heap.size<w1.heap.size:=(by omega);have z1:w.heap.size+1<w1.heap.size:=(by omega);have z2:w.heap.size+1+1<w1.heap.size:=(by omega)
    go_wp2
    have q0:w1.cell? ⟨w.heap.size+1+1,0,none⟩=some (.bool false):=by go_simp
    have q1:w1.cell? ⟨w.heap.size+1+1,1,none⟩=some (.int .i64 0):=by go_simp
    exact bodyPost_ret (v:= .agg #[.bool false, .int .i64 0]) (by simp[results,Tryz.results103,go_sem, *]) rfl ⟨rfl,gq⟩
   ·
    go_enter Tryz.func103,Tryz.ntmps103
    go_wp2_with fail
    refine (two_any a b _).mono ?_;rintro e w1 ⟨rfl,hg⟩;obtain ⟨hc,hf⟩:=hg.cells;have hz:=hg.size;(try simp at hz);have z0:w.heap.size<w1.heap.size:=(by omega);have z1:w.heap.size+1<w1.heap.size:=(by omega);have z2:w.heap.size+1+1<w1.heap.size:=(by omega)
    go_wp2_with fail
    refine (rof_any (a.n+b.n) _).mono ?_;rintro e w1 ⟨rfl,hg⟩;obtain ⟨hc,hf⟩:=hg.cells;have hz:=hg.size;(try simp at hz);have z0:w.heap.size<w1.heap.size:=(by omega);have z1:w.heap.size+1<w1.heap.size:=(by omega);have z2:w.heap.size+1+1<w1.heap.size:=(by omega)
    go_wp2
    have q0:w1.cell? ⟨w.heap.size+1+1,0,none⟩=some (.bool false):=by go_simp
    have q1:w1.cell? ⟨w.heap.size+1+1,1,none⟩=some (.int .i64 0):=by go_simp
    exact bodyPost_ret (v:= .agg #[.bool (ofV (a.n+b.n)).ok, .int .i64 (ofV (a.n+b.n)).n]) (by simp[results,Tryz.results103,go_sem, *]) rfl ⟨rfl,gq⟩
  ·
   go_enter Tryz.func103,Tryz.ntmps103
   go_wp2_with fail
   refine (two_any a b _).mono ?_;rintro e w1 ⟨rfl,hg⟩;obtain ⟨hc,hf⟩:=hg.cells;have hz:=hg.size;(try simp at hz);have z0:w.heap.size<w1.heap.size:=(by omega);have z1:w.heap.size+1<w1.heap.size:=(by omega);have z2:w.heap.size+1+1<w1.heap.size:=(by omega)
   go_wp2_with fail
   refine (rof_any (a.n+b.n) _).mono ?_;rintro e w1 ⟨rfl,hg⟩;obtain ⟨hc,hf⟩:=hg.cells;have hz:=hg.size;(try simp at hz);have z0:w.heap.size<w1.heap.size:=(by omega);have z1:w.heap.size+1<w1.heap.size:=(by omega);have z2:w.heap.size+1+1<w1.heap.size:=(by omega)
   go_wp2
   have q0:w1.cell? ⟨w.heap.size+1+1,0,none⟩=some (.bool false):=by go_simp
   have q1:w1.cell? ⟨w.heap.size+1+1,1,none⟩=some (.int .i64 0):=by go_simp
   exact bodyPost_ret (v:= .agg #[.bool (ofV (a.n+b.n)).ok, .int .i64 (ofV (a.n+b.n)).n]) (by simp[results,Tryz.results103,go_sem, *]) rfl ⟨rfl,gq⟩
theorem less_any (a b:Vl) (w:World) :
  Calls Tryz.prog 57 #[.agg #[.bool a.ok, .int .i64 a.n], .agg #[.bool b.ok, .int .i64 b.n]] w fun e w'=>e= .returned (.bool (lessB a b))∧Gr w w':=by
 cases ha:knB a
 ·
  have hv:lessB a b=false:=by simp[lessB,ha]
  rw[hv];clear hv
  go_enter Tryz.func57,Tryz.ntmps57
  go_wp2_with fail
  refine (kn_any a _).mono ?_;rintro e w1 ⟨rfl,hg⟩;obtain ⟨hc,hf⟩:=hg.cells;have hz:=hg.size;(try simp at hz);have z0:w.heap.size<w1.heap.size:=(by omega);have z1:w.heap.size+1<w1.heap.size:=(by omega)
  go_wp2
  go_ret
  exact ⟨rfl,gq⟩
 cases hb:knB b
 ·
  have hv:lessB a b=false:=by simp[lessB,hb]
  rw[hv];clear hv
  go_enter Tryz.func57,Tryz.ntmps57
  go_wp2_with fail
  refine (kn_any a _).mono ?_;rintro e w1 ⟨rfl,hg⟩;obtain ⟨hc,hf⟩:=hg.cells;have hz:=hg.size;(try simp at hz);have z0:w.heap.size<w1.heap.size:=(by omega);have z1:w.heap.size+1<w1.heap.size:=(by omega)
  go_wp2_with fail
  refine (kn_any b _).mono ?_;rintro e w1 ⟨rfl,hg⟩;obtain ⟨hc,hf⟩:=hg.cells;have hz:=hg.size;(try simp at hz);have z0:w.heap.size<w1.heap.size:=(by omega);have z1:w.heap.size+1<w1.heap.size:=(by omega)
  go_wp2
  go_ret
  exact ⟨rfl,gq⟩
 have hv:lessB a b=decide (a.n<b.n):=by simp[lessB,ha,hb]
 rw[hv];clear hv
 go_enter Tryz.func57,Tryz.ntmps57
 go_wp2_with fail
 refine (kn_any a _).mono ?_;rintro e w1 ⟨rfl,hg⟩;obtain ⟨hc,hf⟩:=hg.cells;have hz:=hg.size;(try simp at hz);have z0:w.heap.size<w1.heap.size:=(by omega);have z1:w.heap.size+1<w1.heap.size:=(by omega)
 go_wp2_with fail
 refine (kn_any b _).mono ?_;rintro e w1 ⟨rfl,hg⟩;obtain ⟨hc,hf⟩:=hg.cells;have hz:=hg.size;(try simp at hz);have z0:w.heap.size<w1.heap.size:=(by omega);have z1:w.heap.size+1<w1.heap.size:=(by omega)
 go_wp2
 go_ret
 exact ⟨rfl,gq⟩
theorem rless_any (a b:Vl) (w:World) :
  Calls Tryz.prog 68 #[.agg #[.bool a.ok, .int .i64 a.n], .agg #[.bool b.ok, .int .i64 b.n]] w fun e w'=>e= .returned (.bool (lessB a b))∧Gr w w':=by
 cases hab:(knB a&&knB b)
 ·
  have hv:lessB a b=false:=by simp[lessB,hab]
  rw[hv];clear hv
  go_enter Tryz.func68,Tryz.ntmps68
  go_wp2_with fail
  refine (two_any a b _).mono ?_;rintro e w1 ⟨rfl,hg⟩;obtain ⟨hc,hf⟩:=hg.cells;have hz:=hg.size;(try simp at hz);have z0:w.heap.size<w1.heap.size:=(by omega);have z1:w.heap.size+1<w1.heap.size:=(by omega)
  go_wp2
  go_ret
  exact ⟨rfl,gq⟩
 have hv:lessB a b=decide (a.n<b.n):=by simp[lessB,hab]
 rw[hv];clear hv
 go_enter Tryz.func68,Tryz.ntmps68
 go_wp2_with fail
 refine (two_any a b _).mono ?_;rintro e w1 ⟨rfl,hg⟩;obtain ⟨hc,hf⟩:=hg.cells;have hz:=hg.size;(try simp at hz);have z0:w.heap.size<w1.heap.size:=(by omega);have z1:w.heap.size+1<w1.heap.size:=(by omega)
 go_wp2
 go_ret
 exact ⟨rfl,gq⟩
theorem addV_take {l:List Vl} {k:Nat} (h:k<l.length):addV (l.take (k+1))=sumV (addV (l.take k)) l[k]:=by
 unfold addV
 rw[List.take_succ_eq_append_getElem h,List.foldl_append]
 rfl
theorem add_any (A:Option Addr) (c:Nat) (l:List Vl) (w:World) (hl:l.length≤maxLen) (hr:Rv w A l) :
  Calls Tryz.prog 100 #[.slice A l.length c] w fun e w'=>e= .returned (.agg #[.bool (addV l).ok, .int .i64 (addV l).n])∧Gr w w':=by
 unfold maxLen at hl
 go_enter Tryz.func100,Tryz.ntmps100
 go_wp2_with fail
 refine (of_any 0 _).mono ?_;rintro e w1 ⟨rfl,hg⟩;obtain ⟨hc,hf⟩:=hg.cells;have hz:=hg.size;(try simp at hz);have z0:w.heap.size<w1.heap.size:=(by omega)
 go_wp2
 go_loopw [9] (fun i wr=>∃k:Nat,k≤l.length∧i= .int .i64 k∧Gr w wr∧w1.heap.size<wr.heap.size∧
   wr.cell? ⟨w.heap.size,0,none⟩=some (.bool false)∧wr.cell? ⟨w.heap.size,1,none⟩=some (.int .i64 0)∧wr.frozen? ⟨w.heap.size,0,none⟩=false∧wr.frozen? ⟨w.heap.size,1,none⟩=false∧
   wr.cell? ⟨w1.heap.size,0,none⟩=some (.bool (addV (l.take k)).ok)∧wr.cell? ⟨w1.heap.size,1,none⟩=some (.int .i64 (addV (l.take k)).n)∧
   wr.frozen? ⟨w1.heap.size,0,none⟩=false∧wr.frozen? ⟨w1.heap.size,1,none⟩=false)
  (fun i _=>l.length-(intOf i).toNat)
 case atStart=>exact ⟨0,Nat.zero_le _,rfl,gq,by simp,by go_simp,by go_simp,by go_simp,by go_simp,by go_simp;rfl,by go_simp;rfl,by go_simp,by go_simp⟩
 case round=>
  obtain ⟨k,hk,rfl,hgr,hzr,r0,r1,rf0,rf1,a0,a1,af0,af1⟩:=hrel
  by_cases hlt:k<l.length
  ·
   obtain ⟨ad,rfl,hb,hx0,hx1⟩:=(hr.gr hgr).at hlt
   have ht:=addV_take hlt
   have Ht:=Lib.hid ht;clear ht
   go_wp2_with fail
   refine (sum_any (addV (l.take k)) l[k] _).mono ?_;rintro e w2 ⟨rfl,hg2⟩;obtain ⟨hc2,hf2⟩:=hg2.cells;have hz2:=hg2.size;(try simp at hz2)
   have y0:w.heap.size<wr.heap.size+1:=(by omega)
   have y1:w1.heap.size<wr.heap.size+1:=(by omega)
   have y2:w1.heap.size<w2.heap.size:=(by omega)
   have y3:w.heap.size<wr.heap.size:=(by omega)
   go_wp2
   go_roundw
   case rel=>
    refine ⟨k+1,by omega,by go_num,gq,by simp;omega,by go_simp,by go_simp,by go_simp,by go_simp,?_,?_,by go_simp,by go_simp⟩
    ·
     rw[Ht.out];go_simp
    ·
     rw[Ht.out];go_simp
   case measure=>simp[intOf];omega
  ·
   have hkk:k=l.length:=by omega
   subst hkk
   rw[List.take_length] at a0 a1
   go_wp2
   exact bodyPost_ret (v:= .agg #[.bool (addV l).ok, .int .i64 (addV l).n]) (by simp[results,Tryz.results100,go_sem, *]) rfl ⟨rfl,gq⟩
namespace Kn
theorem T_lt {Y u un:Nat} (hY:0<Y) (hu:u<Y) (hun:un<4294967296):(u*4294967296+un)/Y<4294967296:=by
 rw[Nat.div_lt_iff_lt_mul hY]
 have:(u+1)*4294967296≤Y*4294967296:=Nat.mul_le_mul_right _ hu
 omega
theorem mulY {Y a b q:Nat} (h:Y=a*4294967296+b):q*Y=q*a*4294967296+q*b:=by
 rw[h,Nat.mul_add,Nat.mul_assoc]
theorem init_le {Y a b u un:Nat} (h:Y=a*4294967296+b) (ha:0<a) (hun:un<4294967296):(u*4294967296+un)/Y≤u/a:=by
 have hY:0<Y:=by omega
 rw[Nat.le_div_iff_mul_le ha]
 have h1:=Nat.div_mul_le_self (u*4294967296+un) Y
 rw[mulY h] at h1
 omega
theorem dec {Y a b u un q r:Nat} (h:Y=a*4294967296+b) (hu:u<Y) (hun:un<4294967296) (hq:u=q*a+r)
  (hT:(u*4294967296+un)/Y≤q) (ht:4294967296≤q∨4294967296*r+un<q*b) :
  1≤q∧(u*4294967296+un)/Y≤q-1∧u=(q-1)*a+(r+a):=by
 have hY:0<Y:=by omega
 have hlt:(u*4294967296+un)/Y<q:=by
  rcases ht with ht|ht
  ·
   exact Nat.lt_of_lt_of_le (T_lt hY hu hun) ht
  ·
   rw[Nat.div_lt_iff_lt_mul hY,mulY h];omega
 generalize (u*4294967296+un)/Y=T at *
 refine ⟨by omega,by omega,?_⟩
 obtain ⟨k,rfl⟩:∃k,q=k+1:=⟨q-1,by omega⟩
 rw[Nat.add_mul] at hq
 simp only[Nat.add_sub_cancel]
 omega
theorem exit1 {Y a b u un q r:Nat} (h:Y=a*4294967296+b) (ha:0<a) (hq:u=q*a+r) (hT:(u*4294967296+un)/Y≤q) (ht:q*b≤4294967296*r+un):q=(u*4294967296+un)/Y:=by
 have hY:0<Y:=by omega
 refine Nat.le_antisymm ?_ hT
 rw[Nat.le_div_iff_mul_le hY,mulY h];omega
theorem exit2 {Y a b u un q r:Nat} (h:Y=a*4294967296+b) (ha:0<a) (hb:b<4294967296) (hu:u<Y) (hq:u=q*a+r) (hT:(u*4294967296+un)/Y≤q) (ht:4294967296≤r):q=(u*4294967296+un)/Y:=by
 have hq':q<4294967296:=by
  rcases Nat.lt_or_ge q 4294967296 with h1|h1
  ·
   exact h1
  ·
   have:4294967296*a≤q*a:=Nat.mul_le_mul_right _ h1
   omega
 refine exit1 h ha hq hT ?_
 have h2:q*b≤4294967296*4294967296:=Nat.mul_le_mul (by omega) (by omega)
 have h3:4294967296*4294967296≤4294967296*r:=Nat.mul_le_mul_left _ ht
 omega
theorem rem_eq {Y N:Nat}:N-N/Y*Y=N%Y:=by
 have:=Nat.div_add_mod N Y
 rw[Nat.mul_comm] at this
 omega
theorem two_ {Y M b:Nat} (hY:0<Y):(M*4294967296+b)/Y=M/Y*4294967296+(M%Y*4294967296+b)/Y∧(M*4294967296+b)%Y=(M%Y*4294967296+b)%Y:=by
 have hd:=Nat.div_add_mod M Y
 have e2:M*4294967296+b=(M%Y*4294967296+b)+Y*(M/Y*4294967296):=by
  rw[←Nat.mul_assoc]
  generalize Y*(M/Y)=Z at *
  omega
 have d1:=Nat.add_mul_div_left (M%Y*4294967296+b) (M/Y*4294967296) hY
 have d2:=Nat.add_mul_mod_self_left (M%Y*4294967296+b) Y (M/Y*4294967296)
 rw[←e2] at d1 d2
 exact ⟨d1.trans (Nat.add_comm _ _),d2⟩
theorem two {Y u a b:Nat} (hY:0<Y) :
  (u*18446744073709551616+(a*4294967296+b))/Y=(u*4294967296+a)/Y*4294967296+((u*4294967296+a)%Y*4294967296+b)/Y∧
  (u*18446744073709551616+(a*4294967296+b))%Y=((u*4294967296+a)%Y*4294967296+b)%Y:=by
 have e:u*18446744073709551616+(a*4294967296+b)=(u*4294967296+a)*4294967296+b:=by
  rw[Nat.add_mul,Nat.mul_assoc,Nat.add_assoc]
 rw[e]
 exact two_ hY
theorem shifted {P y k:Nat} (hk:0<k):P*k/(y*k)=P/y∧P*k%(y*k)/k=P%y:=by
 refine ⟨Nat.mul_div_mul_right _ _ hk,?_⟩
 rw[Nat.mul_mod_mul_right,Nat.mul_div_cancel _ hk]
theorem un {hi lo y s:Nat} (hs:s≤63) (hlo:lo<18446744073709551616) (hhi:hi<y) (_hy:y*2^s<18446744073709551616) :
  (hi*18446744073709551616+lo)*2^s=(hi*2^s+lo/2^(64-s))*18446744073709551616+lo*2^s%18446744073709551616∧
  hi*2^s+lo/2^(64-s)<y*2^s∧lo/2^(64-s)<2^s:=by
 have e:(18446744073709551616:Nat)=2^(64-s)*2^s:=by rw[←Nat.pow_add];rw[show 64-s+s=64 from by omega]
 have hp:0<2^s:=Nat.pow_pos (by omega)
 have hp':0<2^(64-s):=Nat.pow_pos (by omega)
 have h1:lo/2^(64-s)<2^s:=by
  rw[Nat.div_lt_iff_lt_mul hp',Nat.mul_comm,←e];exact hlo
 have h2:lo*2^s/18446744073709551616=lo/2^(64-s):=by
  rw[e,Nat.mul_div_mul_right _ _ hp]
 have h3:=Nat.div_add_mod (lo*2^s) 18446744073709551616
 rw[h2] at h3
 have h4:(hi+1)*2^s≤y*2^s:=Nat.mul_le_mul_right _ hhi
 rw[Nat.add_mul] at h4
 refine ⟨?_,by omega,h1⟩
 rw[Nat.add_mul,Nat.mul_right_comm]
 generalize hi*2^s=A at *
 generalize lo*2^s=B at *
 generalize lo/2^(64-s)=C at *
 omega
end Kn
theorem bitLen_bd:∀(f x:Nat),x<2^f→f≤64→0<x→2^(Lib.bitLen x-1)≤x∧x<2^Lib.bitLen x∧1≤Lib.bitLen x∧Lib.bitLen x≤f:=by
 intro f
 induction f with
 | zero=>intro x h _ h0;simp at h;omega
 | succ f ih=>
  intro x h hf h0
  have h64:x<2^64:=Nat.lt_of_lt_of_le h (Nat.pow_le_pow_right (by omega) hf)
  have e:=Lib.bitLen_half x (by omega) h64
  rcases Nat.lt_or_ge x 2 with h2|h2
  ·
   have hx:x=1:=by omega
   subst hx
   have e1:Lib.bitLen 1=1:=by decide
   rw[e1]
   exact ⟨by decide,by decide,by decide,by omega⟩
  ·
   have hh:x/2<2^f:=by rw[Nat.pow_succ] at h;omega
   obtain ⟨a1,a2,a3,a4⟩:=ih (x/2) hh (by omega) (by omega)
   rw[e]
   obtain ⟨k,hk⟩:∃k,Lib.bitLen (x/2)=k+1:=⟨Lib.bitLen (x/2)-1,by omega⟩
   rw[hk] at a1 a2 a4 ⊢
   simp only[Nat.add_sub_cancel] at a1
   rw[show 1+(k+1)-1=k+1 from by omega,show 1+(k+1)=k+1+1 from by omega]
   rw[Nat.pow_succ] at a2
   refine ⟨?_,?_,by omega,by omega⟩
   ·
    rw[Nat.pow_succ];omega
   ·
    rw[Nat.pow_succ,Nat.pow_succ];omega
structure Dv (hi lo y s Y a b u d1 d0 L:Nat):Prop where
 e1:IntKind.u64.wrap ((y:Int)*2^s)=(Y:Int)
 e2:(Y:Int)/4294967296=(a:Int)
 e3:bits .and .u64 (Y:Int) 4294967295=(b:Int)
 e4:bits .or .u64 (IntKind.u64.wrap ((hi:Int)*2^s)) ((lo:Int)/2^(64-s))=(u:Int)
 e5:IntKind.u64.wrap ((lo:Int)*2^s)=(L:Int)
 e6:(L:Int)/4294967296=(d1:Int)
 e7:bits .and .u64 (L:Int) 4294967295=(d0:Int)
 hY:Y=a*4294967296+b
 hb:b<4294967296
 ha:a<4294967296
 ha':2147483648≤a
 hu:u<Y
 h1:d1<4294967296
 h0:d0<4294967296
 hN:(hi*18446744073709551616+lo)*2^s=u*18446744073709551616+(d1*4294967296+d0)
 hYs:Y=y*2^s
theorem dv_and (L:Nat) (h:L<18446744073709551616):bits .and .u64 (L:Int) 4294967295=((L%4294967296:Nat):Int):=by
 have h1:=bits_and_u64_nat L 4294967295 h (by omega)
 have e:L &&& 4294967295=L%4294967296:=Nat.and_two_pow_sub_one_eq_mod L 32
 rw[e] at h1
 exact h1
theorem dv_wrap (a:Nat):IntKind.u64.wrap (a:Int)=((a%18446744073709551616:Nat):Int):=by rw[IntKind.wrap_u64];omega
theorem dv_mk (hi lo y s:Nat) (hy:hi<y) (hy64:y<18446744073709551616) (hlo:lo<18446744073709551616) (hs:Lib.bitLen y+s=64) (hs63:s≤63) :
  ∃Y a b u d1 d0 L,Dv hi lo y s Y a b u d1 d0 L:=by
 obtain ⟨c1,c2,c3,c4⟩:=bitLen_bd 64 y (by simpa using hy64) (by omega) (by omega)
 have p64:(2:Nat)^64=18446744073709551616:=by decide
 have hp:0<2^s:=Nat.pow_pos (by omega)
 have hY1:y*2^s<18446744073709551616:=by
  have:y*2^s<2^Lib.bitLen y*2^s:=Nat.mul_lt_mul_of_pos_right c2 hp
  rw[←Nat.pow_add,hs,p64] at this
  exact this
 have hY2:9223372036854775808≤y*2^s:=by
  have:2^(Lib.bitLen y-1)*2^s≤y*2^s:=Nat.mul_le_mul_right _ c1
  rw[←Nat.pow_add,show Lib.bitLen y-1+s=63 from by omega] at this
  exact this
 obtain ⟨n1,n2,n3⟩:=Kn.un hs63 hlo hy hY1
 have cast:∀x:Nat,(x:Int)*2^s=((x*2^s:Nat):Int):=fun x=>by rw[Int.natCast_mul,Int.natCast_pow];rfl
 have castd:(lo:Int)/2^(64-s)=((lo/2^(64-s):Nat):Int):=by rw[Int.natCast_ediv,Int.natCast_pow];rfl
 have hor:hi*2^s ||| lo/2^(64-s)=hi*2^s+lo/2^(64-s):=by
  rw[Nat.mul_comm];exact (Nat.two_pow_add_eq_or_of_lt n3 hi).symm
 refine ⟨y*2^s,y*2^s/4294967296,y*2^s%4294967296,hi*2^s+lo/2^(64-s),lo*2^s%18446744073709551616/4294967296,lo*2^s%18446744073709551616%4294967296,lo*2^s%18446744073709551616,?_⟩
 generalize hYd:y*2^s=Y at *
 generalize hHd:hi*2^s=Hh at *
 generalize hCd:lo/2^(64-s)=C at *
 generalize hLd:lo*2^s=L0 at *
 exact {
  e1:=by rw[cast,hYd,dv_wrap,Nat.mod_eq_of_lt hY1]
  e2:=by omega
  e3:=dv_and Y hY1
  e4:=by
   rw[castd,cast,hHd,dv_wrap,Nat.mod_eq_of_lt (by omega),bits_or_u64_nat Hh C (by omega) (by omega),hor]
  e5:=by rw[cast,hLd,dv_wrap]
  e6:=by omega
  e7:=dv_and _ (by omega)
  hY:=by omega
  hb:=by omega
  ha:=by omega
  ha':=by omega
  hu:=n2
  h1:=by omega
  h0:=by omega
  hN:=by rw[n1];omega
  hYs:=hYd.symm}
structure Dg (Y a b u d T Q M R:Nat):Prop where
 e8:(u:Int)/(a:Int)=(Q:Int)
 e9:IntKind.u64.wrap ((Q:Int)*(a:Int))=(M:Int)
 e10:(u:Int)-(M:Int)=(R:Int)
 hM:M≤u
 hq:u=Q*a+R
 hT:T≤Q
 hQ:Q<8589934592
 hR:R<a
 hTd:T=(u*4294967296+d)/Y
 hTl:T<4294967296
theorem dg_mk {Y a b u d:Nat} (hY:Y=a*4294967296+b) (hb:b<4294967296) (ha:a<4294967296) (ha':2147483648≤a) (hu:u<Y) (hd:d<4294967296):∃T Q M R,Dg Y a b u d T Q M R:=by
 have hm:=Nat.div_add_mod u a
 have hr:=Nat.mod_lt u (show a>0 by omega)
 have hQ:u/a<8589934592:=by
  rw[Nat.div_lt_iff_lt_mul (by omega)]
  have:8589934592*2147483648≤8589934592*a:=Nat.mul_le_mul_left _ ha'
  omega
 have hi:=Kn.init_le (un:=d) (u:=u) hY (by omega) hd
 have hTl:=Kn.T_lt (un:=d) (u:=u) (Y:=Y) (by omega) hu hd
 have c8:(u:Int)/(a:Int)=((u/a:Nat):Int):=(Int.natCast_ediv u a).symm
 have cM:((u/a:Nat):Int)*(a:Int)=((u/a*a:Nat):Int):=(Int.natCast_mul _ _).symm
 have hMu:u/a*a≤u:=Nat.div_mul_le_self u a
 rw[Nat.mul_comm] at hm
 generalize hTd:(u*4294967296+d)/Y=T at *
 generalize hQd:u/a=Q at *
 generalize u%a=R at *
 refine ⟨T,Q,Q*a,R,?_⟩
 exact {e8:=c8,e9:=by rw[cM,dv_wrap,Nat.mod_eq_of_lt (by omega)],e10:=by omega,hM:=hMu,hq:=hm.symm,hT:=hi,hQ:=hQ,hR:=hr,hTd:=hTd.symm,hTl:=hTl}
theorem dg_rem {Y u d T:Nat} (hY64:Y<18446744073709551616) (hY0:0<Y) (hT:T=(u*4294967296+d)/Y) :
  IntKind.u64.wrap (IntKind.u64.wrap (IntKind.u64.wrap ((u:Int)*4294967296)+(d:Int))-IntKind.u64.wrap ((T:Int)*(Y:Int)))=(((u*4294967296+d)%Y:Nat):Int):=by
 have h1:=Kn.rem_eq (Y:=Y) (N:=u*4294967296+d)
 have h2:=Nat.div_mul_le_self (u*4294967296+d) Y
 have h3:=Nat.mod_lt (u*4294967296+d) hY0
 have c:(T:Int)*(Y:Int)=((T*Y:Nat):Int):=(Int.natCast_mul _ _).symm
 rw[←hT] at h1 h2
 rw[c]
 generalize (u*4294967296+d)%Y=M at *
 generalize T*Y=Z at *
 simp only[IntKind.wrap_u64]
 omega
end Go.Proofs.YtnphdacibageiaaGreat
