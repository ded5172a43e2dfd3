import Derived.WalkKit
import Derived.WalkSpells
import Derived.WalkLawsBesides
import Derived.Test.YtnphdacibageiaaGreatProg
import Derived.Deep.RegionHeld3
import Derived.Maps.AppendAt
import Derived.OwnWalk
import Derived.Lib.Hide
import Derived.Outline
import Derived.Laws.Bits64b
import Derived.Lib.BitFns
import Derived.Test.YtnphdacibageiaaGreatBits
import Derived.BigQuiet
import Derived.Deep.QuietTactic
import Derived.Laws.BitsLemmas
import Derived.Lib.Mul64
import Derived.Sort.Defs
set_option linter.all false
set_option maxRecDepth 1000000
set_option maxHeartbeats 12800000
namespace Go.Proofs.YtnphdacibageiaaGreat
open Go.RowKit
def Gr (w w':World):Prop:=Below w.heap.size w w'
theorem Gr.refl (w:World):Gr w w:=Below.refl _ _
theorem Gr.size {a w:World} (h:Gr a w):a.heap.size≤w.heap.size:=Below.size h
theorem Gr.alloc {a w:World} (h:Gr a w) (o:Obj):Gr a (w.alloc o):=Below.alloc h h.size o
theorem Gr.drew {a w:World} (h:Gr a w):Gr a w.drew:=Below.drew h
theorem Gr.setCell {a w:World} (h:Gr a w) {p:Addr} (hp:a.heap.size≤p.block) (u:Value):Gr a (w.setCell p u):=Below.setCell h hp u
theorem Gr.trans {a b c:World} (h:Gr a b) (k:Gr b c):Gr a c:=Below.trans h (Below.mono k h.size)
theorem gq {a b:World} (h:Gr a b:=by repeat (first|exact Gr.refl _|refine Gr.alloc ?_ _|refine Gr.drew ?_|refine Gr.setCell ?_ (by first|(simp;done)|(simp;omega)|omega) _|refine Gr.trans ?_ (by assumption))):Gr a b:=h
theorem Gr.cells {W w1:World} (hb:Gr W w1):(∀b o,b<W.heap.size→w1.cell? ⟨b,o,none⟩=W.cell? ⟨b,o,none⟩)∧(∀b o,b<W.heap.size→w1.frozen? ⟨b,o,none⟩=W.frozen? ⟨b,o,none⟩):=
 ⟨fun b o h=>Below.cell hb (p:=⟨b,o,none⟩) h,fun b o h=>Below.frozen hb (p:=⟨b,o,none⟩) h⟩
structure Vl where
 ok:Bool
 n:Int
def isB (a:Vl):Bool:=bif a.ok then (decide (-4611686018427387904≤a.n)&&decide (a.n≤4611686018427387904)) else a.n==0
def knB (a:Vl):Bool:=a.ok&&isB a
def ofV (n:Int):Vl:=bif isB ⟨true,n⟩ then ⟨true,n⟩ else ⟨false,0⟩
def intV (n:Int):Vl:=bif decide (-4611686018427≤n)&&decide (n≤4611686018427) then ofV (n*1000000) else ⟨false,0⟩
def sumV (a b:Vl):Vl:=bif knB a&&knB b then ofV (a.n+b.n) else ⟨false,0⟩
def addV (l:List Vl):Vl:=l.foldl sumV (ofV 0)
def subV (a b:Vl):Vl:=bif knB a&&knB b then ofV (a.n-b.n) else ⟨false,0⟩
def lessB (a b:Vl):Bool:=knB a&&knB b&&decide (a.n<b.n)
theorem isB_iff (ok:Bool) (n:Int):isB ⟨ok,n⟩=true↔(if ok=true then -4611686018427387904≤n∧n≤4611686018427387904 else n=0):=by
 cases ok<;>simp[isB]
theorem ofV_in {n:Int} (h: -4611686018427387904≤n) (h':n≤4611686018427387904):ofV n=⟨true,n⟩:=by simp[ofV,isB,h,h']
theorem ofV_hi {n:Int} (h:4611686018427387904<n):ofV n=⟨false,0⟩:=by
 have:¬n≤4611686018427387904:=by omega
 simp[ofV,isB,this]
theorem ofV_lo {n:Int} (h:n < -4611686018427387904):ofV n=⟨false,0⟩:=by
 have:¬ -4611686018427387904≤n:=by omega
 simp[ofV,isB,this]
theorem Pu:(∀(t:Array Value) (f:List Deferred) (d:Tmp) (v:Value),Act.put ⟨t,f⟩ (some d) v=⟨t.setIfInBounds d v,f⟩)∧(∀(a:Act) (v:Value),a.put none v=a)∧(∀(l:List Value) (i:Nat) (x:Value),l.toArray.setIfInBounds i x=(l.set i x).toArray)
 ∧ (∀(x y:Value) (l:List Value),(x::l).set 0 y=y::l)∧(∀(x y:Value) (l:List Value) (n:Nat),(x::l).set (n+1) y=x::l.set n y):=
 ⟨fun _ _ _ _=>rfl,fun _ _=>rfl,fun l i x=>List.setIfInBounds_toArray l i x,fun _ _ _=>rfl,fun _ _ _ _=>rfl⟩
theorem is_any (ok:Bool) (n:Int) (w:World) :
  Calls Tryz.prog 22 #[.agg #[.bool ok, .int .i64 n]] w fun e w'=>e= .returned (.bool (isB ⟨ok,n⟩))∧Gr w w':=by
 cases ok <;>
 ·
  go_enter Tryz.func22,Tryz.ntmps22
  go_wp2
  all_goals (go_ret;exact ⟨by simp[isB, *]<;>omega,gq⟩)
theorem ris_any (ok:Bool) (n:Int) (w:World) :
  Calls Tryz.prog 62 #[.agg #[.bool ok, .int .i64 n]] w fun e w'=>e= .returned (.bool (isB ⟨ok,n⟩))∧Gr w w':=by
 cases ok <;>
 ·
  go_enter Tryz.func62,Tryz.ntmps62
  go_wp2
  all_goals (go_ret;exact ⟨by simp[isB, *]<;>omega,gq⟩)
theorem rof_any (n:Int) (w:World) :
  Calls Tryz.prog 39 #[.int .i64 n] w fun e w'=>e= .returned (.agg #[.bool (ofV n).ok, .int .i64 (ofV n).n])∧Gr w w':=by
 by_cases h1:n < -4611686018427387904
 ·
  have hv:=ofV_lo h1
  rw[hv];clear hv
  go_enter Tryz.func39,Tryz.ntmps39
  go_wp2
  exact bodyPost_ret (v:= .agg #[.bool false, .int .i64 0]) (by simp[results,Tryz.results39,go_sem]) rfl ⟨rfl,gq⟩
 ·
  by_cases h2:4611686018427387904<n
  ·
   have hv:=ofV_hi h2
   rw[hv];clear hv
   go_enter Tryz.func39,Tryz.ntmps39
   go_wp2
   exact bodyPost_ret (v:= .agg #[.bool false, .int .i64 0]) (by simp[results,Tryz.results39,go_sem]) rfl ⟨rfl,gq⟩
  ·
   have hv:=ofV_in (n:=n) (by omega) (by omega)
   rw[hv];clear hv
   go_enter Tryz.func39,Tryz.ntmps39
   go_wp2
   exact bodyPost_ret (v:= .agg #[.bool true, .int .i64 n]) (by simp[results,Tryz.results39,go_sem]) rfl ⟨rfl,gq⟩
theorem rint_any (n:Int) (w:World) :
  Calls Tryz.prog 17 #[.int .i64 n] w fun e w'=>e= .returned (.agg #[.bool (intV n).ok, .int .i64 (intV n).n])∧Gr w w':=by
 by_cases h1:n < -4611686018427
 ·
  have hv:intV n=⟨false,0⟩:=by
   have:¬ -4611686018427≤n:=by omega
   simp[intV,this]
  rw[hv];clear hv
  go_enter Tryz.func17,Tryz.ntmps17
  go_wp2
  exact bodyPost_ret (v:= .agg #[.bool false, .int .i64 0]) (by simp[results,Tryz.results17,go_sem]) rfl ⟨rfl,gq⟩
 ·
  by_cases h2:4611686018427<n
  ·
   have hv:intV n=⟨false,0⟩:=by
    have:¬n≤4611686018427:=by omega
    simp[intV,this]
   rw[hv];clear hv
   go_enter Tryz.func17,Tryz.ntmps17
   go_wp2
   exact bodyPost_ret (v:= .agg #[.bool false, .int .i64 0]) (by simp[results,Tryz.results17,go_sem]) rfl ⟨rfl,gq⟩
  ·
   have hv:intV n=ofV (n*1000000):=by
    have a1: -4611686018427≤n:=by omega
    have a2:n≤4611686018427:=by omega
    simp[intV,a1,a2]
   rw[hv];clear hv
   go_enter Tryz.func17,Tryz.ntmps17
   go_wp2_with (go_at_call 39;refine (rof_any (n*1000000) _).mono ?_;rintro e w1 ⟨rfl,hg⟩;obtain ⟨hc,hf⟩:=hg.cells;have hz:=hg.size)
   have q0:w1.cell? ⟨w.heap.size,0,none⟩=some (.bool false):=by go_simp
   have q1:w1.cell? ⟨w.heap.size,1,none⟩=some (.int .i64 0):=by go_simp
   exact bodyPost_ret (v:= .agg #[.bool (ofV (n*1000000)).ok, .int .i64 (ofV (n*1000000)).n]) (by simp[results,Tryz.results17,go_sem, *]) rfl ⟨rfl,gq⟩
theorem kn_any (a:Vl) (w:World) :
  Calls Tryz.prog 91 #[.agg #[.bool a.ok, .int .i64 a.n]] w fun e w'=>e= .returned (.bool (knB a))∧Gr w w':=by
 obtain ⟨ok,n⟩:=a
 cases ok
 ·
  go_enter Tryz.func91,Tryz.ntmps91
  go_wp2
  go_ret
  exact ⟨by simp[knB],gq⟩
 ·
  go_enter Tryz.func91,Tryz.ntmps91
  go_wp2_with (go_at_call 22;refine (is_any _ _ _).mono ?_;rintro e w1 ⟨rfl,hg⟩;obtain ⟨hc,hf⟩:=hg.cells;have hz:=hg.size)
  go_ret
  exact ⟨by simp[knB],gq⟩
theorem add_blk (a:Addr) (n:Nat):(a.add n).block=a.block:=by unfold Addr.add;split<;>rfl
theorem add_two (a:Addr) (i j:Nat):(a.add i).add j=a.add (i+j):=by
 unfold Addr.add
 rcases Nat.eq_zero_or_pos i with hi|hi<;>rcases Nat.eq_zero_or_pos j with hj|hj
 ·
  simp[hi,hj]
 ·
  simp[hi,Nat.ne_of_gt hj]
 ·
  simp[hj]
 ·
  simp[Nat.ne_of_gt hi,Nat.ne_of_gt hj,Nat.add_assoc]
theorem add_next (a:Addr) (i j:Nat):a.add (i+(j+1))=⟨(a.add i).block,(a.add i).off+(j+1),none⟩:=by
 rw[←add_two];rfl
def Rd (w:World) (size:Nat) (A:Option Addr) (n:Nat) (xs:List Value):Prop:=
 xs.length=n*size∧(0<n→∃ad,A=some ad∧ad.block<w.heap.size∧∀j u,xs[j]?=some u→w.cell? (ad.add j)=some u)
theorem Rd.nil (w:World) (size:Nat) (A:Option Addr):Rd w size A 0 []:=⟨by simp,fun h=>absurd h (by omega)⟩
theorem Gr.cell {w w':World} (h:Gr w w') {p:Addr} (hp:p.block<w.heap.size):w'.cell? p=w.cell? p:=Below.cell h hp
theorem Gr.frozen {w w':World} (h:Gr w w') {p:Addr} (hp:p.block<w.heap.size):w'.frozen? p=w.frozen? p:=Below.frozen h hp
theorem Rd.gr {w w':World} {size n:Nat} {A:Option Addr} {xs:List Value} (h:Rd w size A n xs) (g:Gr w w'):Rd w' size A n xs:=
 ⟨h.1,fun hn=>by
  obtain ⟨ad,e,hb,hc⟩:=h.2 hn
  exact ⟨ad,e,Nat.lt_of_lt_of_le hb g.size,fun j u hu=>(g.cell (by rw[add_blk];exact hb)).trans (hc j u hu)⟩⟩
def vcells (l:List Vl):List Value:=l.flatMap fun v=>[.bool v.ok, .int .i64 v.n]
theorem vcells_cons (v:Vl) (l:List Vl):vcells (v::l)= .bool v.ok :: .int .i64 v.n::vcells l:=rfl
theorem vcells_append (l m:List Vl):vcells (l++m)=vcells l++vcells m:=by simp[vcells]
theorem vcells_length (l:List Vl):(vcells l).length=l.length*2:=by
 induction l with
 | nil=>rfl
 | cons v l ih=>rw[vcells_cons];simp only[List.length_cons,ih];omega
theorem vcells_at (l:List Vl):∀(k:Nat) (h:k<l.length),(vcells l)[k*2]?=some (.bool l[k].ok)∧(vcells l)[k*2+1]?=some (.int .i64 l[k].n):=by
 induction l with
 | nil=>intro k h;simp at h
 | cons v l ih=>
  intro k h
  rw[vcells_cons]
  match k,h with
  | 0,_=>exact ⟨rfl,rfl⟩
  | k+1,h=>
   have hk:k<l.length:=by simp only[List.length_cons] at h;omega
   have e:(k+1)*2=k*2+1+1:=by omega
   rw[e]
   simp only[List.getElem?_cons_succ,List.getElem_cons_succ]
   exact ih k hk
def Rv (w:World) (A:Option Addr) (l:List Vl):Prop:=Rd w 2 A l.length (vcells l)
theorem Rv.nil (w:World) (A:Option Addr):Rv w A []:=Rd.nil w 2 A
theorem Rv.gr {w w':World} {A:Option Addr} {l:List Vl} (h:Rv w A l) (g:Gr w w'):Rv w' A l:=Rd.gr h g
theorem Rv.at {w:World} {A:Option Addr} {l:List Vl} (h:Rv w A l) {k:Nat} (hk:k<l.length) :
  ∃ad:Addr,A=some ad∧ad.block<w.heap.size∧w.cell? (ad.add (k*2))=some (.bool l[k].ok)∧w.cell? ⟨(ad.add (k*2)).block,(ad.add (k*2)).off+1,none⟩=some (.int .i64 l[k].n):=by
 obtain ⟨ad,e,hb,hc⟩:=h.2 (by omega)
 exact ⟨ad,e,hb,hc _ _ (vcells_at l k hk).1,(congrArg w.cell? (add_next ad (k*2) 0)).symm.trans (hc _ _ (vcells_at l k hk).2)⟩
section
variable {P:Program} {w:World}
theorem append_nil_run (base:Nat) (t ty e:TypeId) (i:TypeInfo) (size:Nat) (ht:P.underlying t=some (.slice e)) (hi:P.info? e=some i)
  {v:Value} {n:Nat} {xs:List Value} (hown:w.ownsRow base e size v n xs) (c:Nat):(Builtin.append_ #[t,t] ty #[v, .slice none 0 c]).run P w= .ok v w:=by
 obtain ⟨_,⟨hv,_⟩|⟨g,cap,cur,hv,_,_,hnc,_⟩⟩:=hown<;>subst hv
 ·
  simp[Builtin.append_,run_underlying ht,sizeOf,typeInfo,hi,Builtin.lenOf,Builtin.firstCells]
 ·
  simp[Builtin.append_,run_underlying ht,sizeOf,typeInfo,hi,Builtin.lenOf,Builtin.firstCells,hnc,storeCells]
theorem wpList_append_rd {ops:Array Oper} {rest:List Oper} {o:Oper} {a:Act} {Q:Exit→Act→World→Prop} (hgd:o.guard=none) (s x:Operand) (t:TypeId)
  (ho:o.op= .call {callee:= .builtin .append,args:= #[s,x],argTypes:= #[t,t]})
  (base:Nat) (e:TypeId) (i:TypeInfo) (z:Value) (size bytes:Nat) (ht:P.underlying t=some (.slice e)) (hi:P.info? e=some i) (hz:i.zero=some z)
  (hsize:i.size=size) (hby:i.bytes=bytes) (hzs:z.cells.size=size) (hsz:0<size)
  (v:Value) (n:Nat) (xs:List Value) (hs:a.eval s=v) (hown:w.ownsRow base e size v n xs)
  (A:Option Addr) (m c:Nat) (news:List Value) (hx:a.eval x= .slice A m c) (hr:Rd w size A m news) (h1:∀u∈news,u.oneCell'=true)
  (h63:n+m≤maxLen) (hbytes:(n+m)*bytes≤140737488355328) (hbase:base≤w.heap.size)
  (h:∀v' w',w'.ownsRow base e size v' (n+m) (xs++news)→w.grownBy w' v.ownBlock→(v'.ownBlock=v.ownBlock∨v'.ownBlock=some w.heap.size)→wpList P ops Q rest (a.put o.dst v') w'):wpList P ops Q (o::rest) a w:=by
 have hrun:∃v' w',(Builtin.append_ #[t,t] o.type #[v, .slice A m c]).run P w= .ok v' w'∧w'.ownsRow base e size v' (n+m) (xs++news)∧w.grownBy w' v.ownBlock∧(v'.ownBlock=v.ownBlock∨v'.ownBlock=some w.heap.size):=by
  rcases Nat.eq_zero_or_pos m with hm|hm
  ·
   subst hm
   have hn:news=[]:=List.eq_nil_of_length_eq_zero (by simpa using hr.1)
   subst hn
   cases A with
   | none=>exact ⟨v,w,append_nil_run base t o.type e i size ht hi hown c,by simpa using hown,World.grownBy.refl w _, .inl rfl⟩
   | some ad=>
    obtain ⟨v',w',k1,k2,k3,_,k5⟩:=run_append_own_at (P:=P) w base t o.type e i z size bytes ht hi hz hsize hby hzs hsz v n xs hown ad 0 c [] (by simp) (by intro j u hu;simp at hu) (by intro u hu;simp at hu) h63 hbytes hbase
    exact ⟨v',w',k1,k2,k3,k5⟩
  ·
   obtain ⟨ad,rfl,_,hc⟩:=hr.2 hm
   obtain ⟨v',w',k1,k2,k3,_,k5⟩:=run_append_own_at (P:=P) w base t o.type e i z size bytes ht hi hz hsize hby hzs hsz v n xs hown ad m c news hr.1 hc h1 h63 hbytes hbase
   exact ⟨v',w',k1,k2,k3,k5⟩
 obtain ⟨v',w',hr1,h2,h3,h4⟩:=hrun
 refine wpList_plain hgd fun K hK=>?_
 unfold Oper.wp execOp
 simp only[ho,resolve,invoke,builtin,Sem.run_bind,Sem.run_pure,Result.andThen_ok,List.map_toArray,List.map_cons,List.map_nil,hs,hx,hr1]
 exact hK _ _ (h v' w' h2 h3 h4)
end
theorem vcells_one (l:List Vl):∀u∈vcells l,u.oneCell'=true:=by
 intro u hu
 simp only[vcells,List.mem_flatMap] at hu
 obtain ⟨v,_,hv⟩:=hu
 simp at hv
 rcases hv with rfl|rfl<;>rfl
theorem Rd.own {w:World} {base:Nat} {e:TypeId} {size n c:Nat} {A:Option Addr} {xs:List Value} (h:w.ownsRow base e size (.slice A n c) n xs):Rd w size A n xs:=by
 refine ⟨h.1,fun hn=>?_⟩
 have h':=h
 obtain ⟨_,⟨hv,h0⟩|⟨g,cap,cur,hv,_,hh,_,_,_,_⟩⟩:=h'
 ·
  omega
 ·
  have hA:A=some ⟨g,0,none⟩:=by injection hv
  subst hA
  refine ⟨_,rfl,?_,h.cells (g:=g) rfl⟩
  rcases Nat.lt_or_ge g w.heap.size with hlt|hge
  ·
   exact hlt
  ·
   rw[Array.getElem?_eq_none hge] at hh;cases hh
theorem own_form {w:World} {base:Nat} {e:TypeId} {size n:Nat} {v:Value} {xs:List Value} (h:w.ownsRow base e size v n xs):∃A c,v= .slice A n c:=by
 obtain ⟨_,⟨hv,h0⟩|⟨g,cap,cur,hv,_⟩⟩:=h
 ·
  subst h0;exact ⟨none,0,hv⟩
 ·
  exact ⟨_,_,hv⟩
theorem Gr.grown {w0 w w':World} {row:Option Nat} (h:Gr w0 w) (hg:w.grownBy w' row) (hr:∀k,row=some k→w0.heap.size≤k):Gr w0 w':=Below.grown h hg h.size hr
def kn (l:List Vl):List Vl:=l.filter knB
theorem kn_take {l:List Vl} {k:Nat} (h:k<l.length):kn (l.take (k+1))=kn (l.take k)++(if knB l[k]=true then [l[k]] else []):=by
 unfold kn
 rw[List.take_succ_eq_append_getElem h,List.filter_append]
 simp[List.filter_cons]
theorem kn_len (l:List Vl):(kn l).length≤l.length:=List.length_filter_le _ _
theorem kn_take_len (l:List Vl) (k:Nat):(kn (l.take k)).length≤l.length:=Nat.le_trans (kn_len _) (List.length_take_le' k l)
theorem info_val:(Tryz.prog.info? 25).map (fun i=>(i.zero,i.size,i.bytes))=some (some (.agg #[.bool false, .int .i64 0]),2,16):=by kernel_rfl
def RetV (l:List Vl) (w:World) (e:Ending) (w':World):Prop:=∃A c,e= .returned (.slice A l.length c)∧Rv w' A l∧Gr w w'
theorem Rv.new {W:World} {B:Nat} (hB:B=W.heap.size) (T:TypeId) (l:List Vl):Rv (W.alloc (.cells (vcells l).toArray T)) (some ⟨B,0,none⟩) l:=by
 subst hB
 refine ⟨vcells_length l,fun _=>⟨_,rfl,by simp,fun j u hu=>?_⟩⟩
 have e:(⟨W.heap.size,0,none⟩:Addr).add j=⟨W.heap.size,j,none⟩:=by
  unfold Addr.add;split
  ·
   rename_i h;subst h;rfl
  ·
   rw[Nat.zero_add]
 rw[e]
 exact (cell_of_row _ _ _ _ _ _ (heap_alloc_new W _)).trans (by simpa using hu)
theorem own_gr {w w':World} {base:Nat} {e:TypeId} {size n:Nat} {v:Value} {xs:List Value} (h:w.ownsRow base e size v n xs) (g:Gr w w'):w'.ownsRow base e size v n xs:=by
 obtain ⟨h1,⟨hv,h0⟩|⟨g',cap,cur,hv,hb,hh,h2⟩⟩:=h
 ·
  exact ⟨h1, .inl ⟨hv,h0⟩⟩
 ·
  refine ⟨h1, .inr ⟨g',cap,cur,hv,hb,?_,h2⟩⟩
  have hlt:g'<w.heap.size:=by
   rcases Nat.lt_or_ge g' w.heap.size with hlt|hge
   ·
    exact hlt
   ·
    rw[Array.getElem?_eq_none hge] at hh;cases hh
  exact (Below.block g g' hlt).trans hh
theorem known_vals_any (A:Option Addr) (c:Nat) (l:List Vl) (w:World) (hl:l.length≤1000000) (hr:Rv w A l) :
  Calls Tryz.prog 60 #[.slice A l.length c] w (RetV (kn l) w):=by
 have hl':(l.length:Int)≤1000000:=by omega
 obtain ⟨i0,hi,hz0,hz1,hz2⟩:=info_parts info_val
 go_enter Tryz.func60,Tryz.ntmps60
 go_wp2
 go_loopw [3,8] (fun v i wr=>∃k:Nat,k≤l.length∧i= .int .i64 k∧Gr w wr∧wr.ownsRow w.heap.size 25 2 v (kn (l.take k)).length (vcells (kn (l.take k))))
  (fun _ i _=>l.length-(intOf i).toNat)
 case atStart=>exact ⟨0,Nat.zero_le _,rfl,Gr.refl _,World.ownsRow_nil _ _ _ _⟩
 case round=>
  obtain ⟨k,hk,rfl,hgr,hown⟩:=hrel
  by_cases hlt:k<l.length
  ·
   obtain ⟨ad,rfl,hb,hx0,hx1⟩:=(hr.gr hgr).at hlt
   have Ht:=Lib.hid (kn_take hlt)
   have hkl:=kn_take_len l k
   cases hok:l[k].ok
   ·
    have hkn:knB l[k]=false:=by simp[knB,hok]
    rw[hkn] at Ht
    go_wp2
    go_roundw
    case rel=>exact ⟨k+1,by omega,by go_num,gq,by rw[Ht.out];simpa using hown.alloc _⟩
    case measure=>simp[intOf];omega
   ·
    cases hkn:knB l[k]
    ·
     have hib:isB ⟨true,l[k].n⟩=false:=by
      have:knB l[k]=(l[k].ok&&isB ⟨l[k].ok,l[k].n⟩):=rfl
      rw[hok,Bool.true_and] at this;rw[←this];exact hkn
     rw[hkn] at Ht
     go_wp2_with fail
     refine (is_any true l[k].n _).mono ?_;rintro e w1 ⟨rfl,hg⟩;obtain ⟨hc,hf⟩:=hg.cells
     have hown1:=own_gr (hown.alloc _) hg
     clear hkn
     go_wp2
     go_roundw
     case rel=>exact ⟨k+1,by omega,by go_num,gq,by rw[Ht.out];simpa using hown1⟩
     case measure=>simp[intOf];omega
    ·
     have hib:isB ⟨true,l[k].n⟩=true:=by
      have:knB l[k]=(l[k].ok&&isB ⟨l[k].ok,l[k].n⟩):=rfl
      rw[hok,Bool.true_and] at this;rw[←this];exact hkn
     rw[hkn] at Ht
     go_wp2_with fail
     refine (is_any true l[k].n _).mono ?_;rintro e w1 ⟨rfl,hg⟩;obtain ⟨hc,hf⟩:=hg.cells
     have z1:=hg.size
     simp at z1
     have hown1:=own_gr (hown.alloc _) hg
     have hgw1:Gr w w1:=gq
     have z2:=hgw1.size
     have hrx:=Rv.new (W:=w1) rfl 25 [l[k]]
     have hv0:=(hown1.alloc (.cells (vcells [l[k]]).toArray 25))
     have hvl:=hown1.lt
     clear hkn
     go_wp2_with (at_builtin;refine wpList_append_rd rfl (.tmp 18) (.tmp 20) 32 rfl w.heap.size 25 i0 _ 2 16 Tryz.underlying32 hi hz0 hz1 hz2 rfl (by decide) _ _ _ rfl (by rw[←hok];exact hv0) (some ⟨w1.heap.size,0,none⟩) 1 _ (vcells [l[k]]) rfl (by rw[←hok];exact hrx) (vcells_one _) (by unfold maxLen;omega) (by omega) (by simp;omega) ?_;intro v' w2 hown2 hgr2 hat2)
     have hg2:Gr w w2:=Gr.grown (Gr.alloc hgw1 _) hgr2 (fun k hk=>(hvl k hk).1)
     clear hv0 hvl hgr2 hat2 hrx
     go_wp2
     go_roundw
     case rel=>exact ⟨k+1,by omega,by go_num,hg2,by rw[Ht.out];simpa [vcells_append] using hown2⟩
     case measure=>simp[intOf];omega
  ·
   have hkk:k=l.length:=by omega
   subst hkk
   rw[List.take_length] at hown
   obtain ⟨A',c',hv⟩:=own_form hown
   subst hv
   go_wp2
   go_ret
   exact ⟨A',c',rfl,Rd.own hown,hgr⟩
theorem less_any (a b:Vl) (w:World) :
  Calls Tryz.prog 57 #[.agg #[.bool a.ok, .int .i64 a.n], .agg #[.bool b.ok, .int .i64 b.n]] w fun e w'=>e= .returned (.bool (lessB a b))∧Gr w w':=by
 cases ha:knB a
 ·
  have hv:lessB a b=false:=by simp[lessB,ha]
  rw[hv];clear hv
  go_enter Tryz.func57,Tryz.ntmps57
  go_wp2_with fail
  refine (kn_any a _).mono ?_;rintro e w1 ⟨rfl,hg⟩;obtain ⟨hc,hf⟩:=hg.cells;have hz:=hg.size;(try simp at hz);have z0:w.heap.size<w1.heap.size:=(by omega);have z1:w.heap.size+1<w1.heap.size:=(by omega)
  go_wp2
  go_ret
  exact ⟨rfl,gq⟩
 cases hb:knB b
 ·
  have hv:lessB a b=false:=by simp[lessB,hb]
  rw[hv];clear hv
  go_enter Tryz.func57,Tryz.ntmps57
  go_wp2_with fail
  refine (kn_any a _).mono ?_;rintro e w1 ⟨rfl,hg⟩;obtain ⟨hc,hf⟩:=hg.cells;have hz:=hg.size;(try simp at hz);have z0:w.heap.size<w1.heap.size:=(by omega);have z1:w.heap.size+1<w1.heap.size:=(by omega)
  go_wp2_with fail
  refine (kn_any b _).mono ?_;rintro e w1 ⟨rfl,hg⟩;obtain ⟨hc,hf⟩:=hg.cells;have hz:=hg.size;(try simp at hz);have z0:w.heap.size<w1.heap.size:=(by omega);have z1:w.heap.size+1<w1.heap.size:=(by omega)
  go_wp2
  go_ret
  exact ⟨rfl,gq⟩
 have hv:lessB a b=decide (a.n<b.n):=by simp[lessB,ha,hb]
 rw[hv];clear hv
 go_enter Tryz.func57,Tryz.ntmps57
 go_wp2_with fail
 refine (kn_any a _).mono ?_;rintro e w1 ⟨rfl,hg⟩;obtain ⟨hc,hf⟩:=hg.cells;have hz:=hg.size;(try simp at hz);have z0:w.heap.size<w1.heap.size:=(by omega);have z1:w.heap.size+1<w1.heap.size:=(by omega)
 go_wp2_with fail
 refine (kn_any b _).mono ?_;rintro e w1 ⟨rfl,hg⟩;obtain ⟨hc,hf⟩:=hg.cells;have hz:=hg.size;(try simp at hz);have z0:w.heap.size<w1.heap.size:=(by omega);have z1:w.heap.size+1<w1.heap.size:=(by omega)
 go_wp2
 go_ret
 exact ⟨rfl,gq⟩
namespace Kn
theorem two_ {Y M b:Nat} (hY:0<Y):(M*4294967296+b)/Y=M/Y*4294967296+(M%Y*4294967296+b)/Y∧(M*4294967296+b)%Y=(M%Y*4294967296+b)%Y:=by
 have hd:=Nat.div_add_mod M Y
 have e2:M*4294967296+b=(M%Y*4294967296+b)+Y*(M/Y*4294967296):=by
  rw[←Nat.mul_assoc]
  generalize Y*(M/Y)=Z at *
  omega
 have d1:=Nat.add_mul_div_left (M%Y*4294967296+b) (M/Y*4294967296) hY
 have d2:=Nat.add_mul_mod_self_left (M%Y*4294967296+b) Y (M/Y*4294967296)
 rw[←e2] at d1 d2
 exact ⟨d1.trans (Nat.add_comm _ _),d2⟩
theorem two {Y u a b:Nat} (hY:0<Y) :
  (u*18446744073709551616+(a*4294967296+b))/Y=(u*4294967296+a)/Y*4294967296+((u*4294967296+a)%Y*4294967296+b)/Y∧
  (u*18446744073709551616+(a*4294967296+b))%Y=((u*4294967296+a)%Y*4294967296+b)%Y:=by
 have e:u*18446744073709551616+(a*4294967296+b)=(u*4294967296+a)*4294967296+b:=by
  rw[Nat.add_mul,Nat.mul_assoc,Nat.add_assoc]
 rw[e]
 exact two_ hY
end Kn
theorem Gr.drewN {a w:World} (h:Gr a w) (n:Nat):Gr a (w.drewN n):=⟨h.os,h.tape,h.output,h.size,h.block⟩
def rq (P d:Nat):Nat:=P/d+(if d-P%d≤P%d then 1 else 0)
def mdOk (a b c:Int):Bool:= !(c==0)&&decide (rq (a.natAbs*b.natAbs) c.natAbs≤4611686018427387904)
def mdNeg (a b c:Int):Bool:=(decide (a<0) != decide (b<0)) != decide (c<0)
def mdN (a b c:Int):Int:=
 bif mdOk a b c then (bif mdNeg a b c then -(rq (a.natAbs*b.natAbs) c.natAbs:Int) else (rq (a.natAbs*b.natAbs) c.natAbs:Int)) else 0
theorem step_mod (T d b:Nat) (hd:0<d) (hb:b<2) :
  (2*T+b)%d=(if d≤2*(T%d)+b then 2*(T%d)+b-d else 2*(T%d)+b)∧
  (2*T+b)/d=2*(T/d)+(if d≤2*(T%d)+b then 1 else 0):=by
 have h1:=Nat.mod_lt T hd
 have h2:=Nat.div_add_mod T d
 have e:2*T+b=(2*(T%d)+b)+d*(2*(T/d)):=by
  rw[←Nat.mul_assoc,Nat.mul_comm d 2,Nat.mul_assoc];omega
 rw[e,Nat.add_mul_mod_self_left,Nat.add_mul_div_left _ _ hd]
 by_cases h:d≤2*(T%d)+b
 ·
  rw[if_pos h,if_pos h,Nat.mod_eq_sub_mod h,Nat.mod_eq_of_lt (by omega),Nat.div_eq_sub_div hd h,Nat.div_eq_of_lt (by omega)]
  exact ⟨rfl,by omega⟩
 ·
  rw[if_neg h,if_neg h,Nat.mod_eq_of_lt (by omega),Nat.div_eq_of_lt (by omega)]
  exact ⟨rfl,by omega⟩
structure Ld (P d k q r:Nat) (over:Bool):Prop where
 hq:q=P/2^k/d%18446744073709551616
 hr:r=P/2^k%d
 ho:over=decide (9223372036854775808≤P/2^k/d)
theorem Ld.start {P d:Nat} (h:P<2^128):Ld P d 128 0 0 false:=by
 have e:P/2^128=0:=Nat.div_eq_of_lt h
 exact {hq:=by rw[e];simp,hr:=by rw[e];simp,ho:=by rw[e];simp}
theorem pow_step (P k:Nat):P/2^k=2*(P/2^(k+1))+P/2^k%2:=by
 rw[Nat.pow_succ,←Nat.div_div_eq_div_mul];omega
theorem Ld.over {P d k q r:Nat} {o:Bool} (h:Ld P d (k+1) q r o) (hd:0<d):(o||decide (4611686018427387904≤q))=decide (9223372036854775808≤P/2^k/d):=by
 have hs:=pow_step P k
 have hb:P/2^k%2<2:=Nat.mod_lt _ (by omega)
 obtain ⟨_,s2⟩:=step_mod (P/2^(k+1)) d (P/2^k%2) hd hb
 rw[←hs] at s2
 have h1:=h.hq
 have h2:=h.ho
 have hc:(if d≤2*(P/2^(k+1)%d)+P/2^k%2 then 1 else 0:Nat)≤1:=by split<;>omega
 generalize (if d≤2*(P/2^(k+1)%d)+P/2^k%2 then 1 else 0:Nat)=c at *
 generalize P/2^(k+1)/d=Q at *
 generalize P/2^k/d=Q' at *
 rw[h2,Bool.eq_iff_iff]
 simp only[Bool.or_eq_true,decide_eq_true_eq]
 omega
theorem Ld.no {P d k q r:Nat} {o:Bool} (h:Ld P d (k+1) q r o) (hd:0<d) (hx:¬d≤2*r+P/2^k%2) :
  Ld P d k (q*2%18446744073709551616) (2*r+P/2^k%2) (o||decide (4611686018427387904≤q)):=by
 have ho:=h.over hd
 have hs:=pow_step P k
 have hb:P/2^k%2<2:=Nat.mod_lt _ (by omega)
 obtain ⟨s1,s2⟩:=step_mod (P/2^(k+1)) d (P/2^k%2) hd hb
 have h1:=h.hq
 have h2:=h.hr
 rw[←hs,←h2,if_neg hx] at s1 s2
 refine {hq:=?_,hr:=s1.symm,ho:=ho}
 rw[s2,h1]
 generalize P/2^(k+1)/d=Q at *
 omega
def mdV (a b c:Int):Vl:=bif mdOk a b c then ofV (mdN a b c) else ⟨false,0⟩
def mulV (a b:Vl):Vl:=bif knB a&&knB b then mdV a.n b.n 1000000 else ⟨false,0⟩
def divV (a b:Vl):Vl:=bif knB a&&knB b then mdV a.n 1000000 b.n else ⟨false,0⟩
def maxV (x:Vl) (l:List Vl):Vl:=l.foldl (fun b v=>bif lessB b v then v else b) x
def minV (x:Vl) (l:List Vl):Vl:=l.foldl (fun b v=>bif lessB v b then v else b) x
def ofK (kind:Int) (K:List Vl):Vl:=
 if h:0<K.length then if kind=2 then addV K else if kind=1 then divV (addV K) (intV (K.length:Nat)) else if kind=3 then K[K.length-1] else if kind=4 then maxV K[0] K else if kind=5 then minV K[0] K else ⟨false,0⟩
 else ⟨false,0⟩
def aggV (kind:Int) (l:List Vl):Vl:=ofK kind (kn l)
theorem max_take {x:Vl} {K:List Vl} {k:Nat} (h:k<K.length):maxV x (K.take (k+1))=bif lessB (maxV x (K.take k)) K[k] then K[k] else maxV x (K.take k):=by
 unfold maxV;rw[List.take_succ_eq_append_getElem h,List.foldl_append];rfl
theorem len_facts {K:List Vl} (h0:0<K.length):((K.length:Int)==0)=false∧(K.length==0)=false:=by
 constructor
 ·
  exact beq_eq_false_iff_ne.2 (by omega)
 ·
  exact beq_eq_false_iff_ne.2 (by omega)
theorem of_nil (kind:Int) (A:Option Addr) (c:Nat) (l:List Vl) (w:World) (hl:l.length≤1000000) (hr:Rv w A l) (h0:(kn l).length=0) :
  Calls Tryz.prog 70 #[.int .i64 kind, .slice A l.length c] w fun e w'=>e= .returned (.agg #[.bool (⟨false,0⟩:Vl).ok, .int .i64 (⟨false,0⟩:Vl).n])∧Gr w w':=by
 obtain ⟨K,hK⟩:∃K,K=kn l:=⟨_,rfl⟩
 have hn:(((kn l).length:Int)==0)=true:=by simp[h0]
 have hn':((kn l).length==0)=true:=by simp[h0]
 have H0:=Lib.hid h0;clear h0 hK
 go_enter Tryz.func70,Tryz.ntmps70
 go_wp2_with fail
 refine (known_vals_any A c l _ hl (hr.gr (Gr.alloc (Gr.refl _) _))).mono ?_;rintro e w1 ⟨A',c',rfl,hrv,hg⟩
 obtain ⟨hc,hf⟩:=hg.cells
 have z0:w.heap.size<w1.heap.size:=by have:=hg.size;simp at this;omega
 have q0:w1.cell? ⟨w.heap.size,0,none⟩=some (.bool false):=by go_simp
 have q1:w1.cell? ⟨w.heap.size,1,none⟩=some (.int .i64 0):=by go_simp
 have f0:w1.frozen? ⟨w.heap.size,0,none⟩=false:=by go_simp
 have f1:w1.frozen? ⟨w.heap.size,1,none⟩=false:=by go_simp
 have hgw:Gr w w1:=gq
 clear hc hf hg
 go_wp2
 exact bodyPost_ret (v:= .agg #[.bool false, .int .i64 0]) (by simp[results,Tryz.results70,go_sem, *]) rfl ⟨rfl,gq⟩
theorem of_max (A:Option Addr) (c:Nat) (l:List Vl) (w:World) (hl:l.length≤1000000) (hr:Rv w A l) (K:List Vl) (hK:kn l=K) (h0:0<K.length) :
  Calls Tryz.prog 70 #[.int .i64 4, .slice A l.length c] w fun e w'=>e= .returned (.agg #[.bool (maxV K[0] K).ok, .int .i64 (maxV K[0] K).n])∧Gr w w':=by
 obtain ⟨x,hx⟩:∃x,K[0]=x:=⟨_,rfl⟩
 rw[hx]
 have hlen:K.length≤1000000:=by rw[←hK];exact Nat.le_trans (kn_len l) hl
 obtain ⟨hn,hn'⟩:=len_facts h0
 have hlK:(K.length:Int)≤1000000:=by omega
 have hpK:(0:Int)<(K.length:Int):=by omega
 go_enter Tryz.func70,Tryz.ntmps70
 go_wp2_with fail
 refine (known_vals_any A c l _ hl (hr.gr (Gr.alloc (Gr.refl _) _))).mono ?_;rintro e w1 ⟨A',c',rfl,hrv,hg⟩
 obtain ⟨hc,hf⟩:=hg.cells
 have z0:w.heap.size<w1.heap.size:=by have:=hg.size;simp at this;omega
 have q0:w1.cell? ⟨w.heap.size,0,none⟩=some (.bool false):=by go_simp
 have q1:w1.cell? ⟨w.heap.size,1,none⟩=some (.int .i64 0):=by go_simp
 have f0:w1.frozen? ⟨w.heap.size,0,none⟩=false:=by go_simp
 have f1:w1.frozen? ⟨w.heap.size,1,none⟩=false:=by go_simp
 have hgw:Gr w w1:=gq
 clear hc hf hg
 rw[hK] at hrv ⊢
 have HK:=Lib.hid hK;clear hK
 obtain ⟨ad,hAd,hb,hx0,hx1⟩:=hrv.at h0
 subst hAd
 rw[Nat.zero_mul] at hx0 hx1
 have ha0:ad.add 0=ad:=rfl
 rw[ha0] at hx0 hx1
 rw[hx] at hx0 hx1
 have HX:=Lib.hid hx;clear hx
 go_wp2
 go_loopw [45] (fun i wr=>∃(k:Nat) (b:Vl),k≤K.length∧i= .int .i64 k∧Gr w1 wr∧w1.heap.size<wr.heap.size∧
   wr.cell? ⟨w1.heap.size,0,none⟩=some (.bool b.ok)∧wr.cell? ⟨w1.heap.size,1,none⟩=some (.int .i64 b.n)∧
   wr.frozen? ⟨w1.heap.size,0,none⟩=false∧wr.frozen? ⟨w1.heap.size,1,none⟩=false∧b=maxV x (K.take k))
  (fun i _=>K.length-(intOf i).toNat)
 case atStart=>exact ⟨0,x,Nat.zero_le _,rfl,gq,by simp,by go_simp,by go_simp,by go_simp,by go_simp,rfl⟩
 case round=>
  obtain ⟨k,b,hk,rfl,hgr,hzr,a0,a1,af0,af1,hbm⟩:=hrel
  by_cases hlt:k<K.length
  ·
   obtain ⟨ad',hAd,hb',hy0,hy1⟩:=(hrv.gr hgr).at hlt
   obtain rfl:ad=ad':=by injection hAd
   have Ht:=max_take (x:=x) hlt
   rw[←hbm] at Ht
   clear hbm hAd
   cases hlb:lessB b K[k]
   ·
    rw[hlb] at Ht
    have HT:=Lib.hid Ht;clear Ht
    go_wp2_with fail
    refine (less_any b K[k] _).mono ?_;rintro e w2 ⟨rfl,hg2⟩;obtain ⟨hc2,hf2⟩:=hg2.cells;have hz2:=hg2.size;(try simp at hz2)
    have y2:w1.heap.size<w2.heap.size:=(by omega)
    have y3:w1.heap.size<wr.heap.size+1:=(by omega)
    go_wp2
    go_roundw
    case rel=>exact ⟨k+1,b,by omega,by go_num,gq,by omega,by go_simp,by go_simp,by go_simp,by go_simp,HT.out.symm⟩
    case measure=>simp[intOf];omega
   ·
    rw[hlb] at Ht
    have HT:=Lib.hid Ht;clear Ht
    go_wp2_with fail
    refine (less_any b K[k] _).mono ?_;rintro e w2 ⟨rfl,hg2⟩;obtain ⟨hc2,hf2⟩:=hg2.cells;have hz2:=hg2.size;(try simp at hz2)
    have y2:w1.heap.size<w2.heap.size:=(by omega)
    have y3:w1.heap.size<wr.heap.size+1:=(by omega)
    go_wp2
    go_roundw
    case rel=>exact ⟨k+1,K[k],by omega,by go_num,gq,by simp;omega,by go_simp,by go_simp,by go_simp,by go_simp,HT.out.symm⟩
    case measure=>simp[intOf];omega
  ·
   have hkk:k=K.length:=by omega
   subst hkk
   rw[List.take_length] at hbm
   subst hbm
   have x0:=(hgr.cell (p:=⟨w.heap.size,0,none⟩) z0).trans q0
   have x1:=(hgr.cell (p:=⟨w.heap.size,1,none⟩) z0).trans q1
   have y0:=(hgr.frozen (p:=⟨w.heap.size,0,none⟩) z0).trans f0
   have y1:=(hgr.frozen (p:=⟨w.heap.size,1,none⟩) z0).trans f1
   go_wp2
   exact bodyPost_ret (v:= .agg #[.bool (maxV x K).ok, .int .i64 (maxV x K).n]) (by simp[results,Tryz.results70,go_sem, *]) rfl ⟨rfl,gq⟩
theorem of_other (kind:Int) (e1:(kind==1)=false) (e2:(kind==2)=false) (e3:(kind==3)=false) (e4:(kind==4)=false) (e5:(kind==5)=false) (A:Option Addr) (c:Nat) (l:List Vl) (w:World) (hl:l.length≤1000000) (hr:Rv w A l) (K:List Vl) (hK:kn l=K) (h0:0<K.length) :
  Calls Tryz.prog 70 #[.int .i64 kind, .slice A l.length c] w fun e w'=>e= .returned (.agg #[.bool (⟨false,0⟩:Vl).ok, .int .i64 (⟨false,0⟩:Vl).n])∧Gr w w':=by
 have hlen:K.length≤1000000:=by rw[←hK];exact Nat.le_trans (kn_len l) hl
 obtain ⟨hn,hn'⟩:=len_facts h0
 have hlK:(K.length:Int)≤1000000:=by omega
 have hpK:(0:Int)<(K.length:Int):=by omega
 go_enter Tryz.func70,Tryz.ntmps70
 go_wp2_with fail
 refine (known_vals_any A c l _ hl (hr.gr (Gr.alloc (Gr.refl _) _))).mono ?_;rintro e w1 ⟨A',c',rfl,hrv,hg⟩
 obtain ⟨hc,hf⟩:=hg.cells
 have z0:w.heap.size<w1.heap.size:=by have:=hg.size;simp at this;omega
 have q0:w1.cell? ⟨w.heap.size,0,none⟩=some (.bool false):=by go_simp
 have q1:w1.cell? ⟨w.heap.size,1,none⟩=some (.int .i64 0):=by go_simp
 have f0:w1.frozen? ⟨w.heap.size,0,none⟩=false:=by go_simp
 have f1:w1.frozen? ⟨w.heap.size,1,none⟩=false:=by go_simp
 have hgw:Gr w w1:=gq
 clear hc hf hg
 rw[hK] at hrv ⊢
 have HK:=Lib.hid hK;clear hK
 obtain ⟨ad,hAd,hb,hx0,hx1⟩:=hrv.at h0
 subst hAd
 rw[Nat.zero_mul] at hx0 hx1
 have ha0:ad.add 0=ad:=rfl
 rw[ha0] at hx0 hx1
 go_wp2
 exact bodyPost_ret (v:= .agg #[.bool false, .int .i64 0]) (by simp[results,Tryz.results70,go_sem, *]) rfl ⟨rfl,gq⟩
def AgOk (kind:Int):Prop:=∀(A:Option Addr) (c:Nat) (l:List Vl) (w:World),l.length≤1000000→Rv w A l→
  Calls Tryz.prog 70 #[.int .i64 kind, .slice A l.length c] w fun e w'=>e= .returned (.agg #[.bool (aggV kind l).ok, .int .i64 (aggV kind l).n])∧Gr w w'
theorem agok_few {kind:Int} (hk:kind=4∨kind<1∨5<kind):AgOk kind:=fun A c l w hl hr=>by
 by_cases h0:0<(kn l).length
 ·
  by_cases k4:kind=4
  ·
   subst k4
   have hv:aggV 4 l=maxV (kn l)[0] (kn l):=by simp[aggV,ofK,h0]
   rw[hv];exact of_max A c l w hl hr _ rfl h0
  have k1:kind≠1:=by omega
  have k2:kind≠2:=by omega
  have k3:kind≠3:=by omega
  have k5:kind≠5:=by omega
  have hv:aggV kind l=⟨false,0⟩:=by simp[aggV,ofK,h0,k1,k2,k3,k4,k5]
  rw[hv];exact of_other kind (beq_eq_false_iff_ne.2 k1) (beq_eq_false_iff_ne.2 k2) (beq_eq_false_iff_ne.2 k3) (beq_eq_false_iff_ne.2 k4) (beq_eq_false_iff_ne.2 k5) A c l w hl hr _ rfl h0
 ·
  have hv:aggV kind l=⟨false,0⟩:=by simp[aggV,ofK,h0]
  rw[hv];exact of_nil kind A c l w hl hr (by omega)
structure Sr where
 name:ByteArray
 start:Int
 step:Int
 vals:List Vl
 cons:Int
def isS (s:Sr):Bool:=
 decide ((s.name.size:Int)≤4096)&&(decide (0≤s.start)&&(decide (s.start≤4294967295)&&(decide (1≤s.step)&&(decide (s.step≤1099511627776)&&(decide ((s.vals.length:Int)≤131072)&&(decide (0≤s.cons)&&(decide (s.cons≤5)&&s.vals.all isB)))))))
structure Ok (s:Sr):Prop where
 name:(s.name.size:Int)≤4096
 s0:0≤s.start
 s1:s.start≤4294967295
 p0:1≤s.step
 p1:s.step≤1099511627776
 len:(s.vals.length:Int)≤131072
 c0:0≤s.cons
 c1:s.cons≤5
 all:s.vals.all isB=true
theorem isS_iff (s:Sr):isS s=true↔Ok s:=by
 unfold isS
 simp only[Bool.and_eq_true,decide_eq_true_eq]
 constructor
 ·
  rintro ⟨a,b,c,d,e,f,g,h,i⟩;exact ⟨a,b,c,d,e,f,g,h,i⟩
 ·
  rintro ⟨a,b,c,d,e,f,g,h,i⟩;exact ⟨a,b,c,d,e,f,g,h,i⟩
def endS (s:Sr):Int:=if isS s=true then s.start+s.vals.length*s.step else 0
def consS (s:Sr):Int:=if isS s=true then (if s.cons=0 then 1 else s.cons) else 1
def plS (s:Sr) (t:Int):Nat:=if t≤s.start then 0 else min s.vals.length ((t-s.start-1)/s.step+1).toNat
def withinS (s:Sr) (a b:Int):List Vl:=(s.vals.take (plS s b)).drop (plS s a)
def fitOk (s:Sr) (start step n:Int):Bool:=isS s&&(decide (1≤step)&&(decide (step≤1099511627776)&&(decide (0≤n)&&(decide (n≤131072)&&(decide (0≤start)&&decide (start≤4294967295))))))
def fitV (s:Sr) (start step:Int) (k:Nat):Vl:=aggV (consS s) (withinS s (start+k*step) (start+k*step+step))
def fitL (s:Sr) (start step:Int) (n:Nat):List Vl:=(List.range n).map (fitV s start step)
def fitS (s:Sr) (start step n:Int):Sr:=if fitOk s start step n=true then ⟨s.name,start,step,fitL s start step n.toNat,s.cons⟩ else s
def upI (n by_:Int):Int:=(n+by_-1)/by_
def rtAux (N:Nat):Nat→Nat→Nat
 | 0,n=>n
 | k+1,n=>rtAux N k (if (n+2^k)*(n+2^k)≤N then n+2^k else n)
def rtN (N:Nat):Nat:=rtAux N 42 0
def sqrtV (a:Vl):Vl:=bif knB a&&decide (0≤a.n) then ofV (rtN (a.n.toNat*1000000)) else ⟨false,0⟩
structure Rt (N k n:Nat):Prop where
 hd:n%2^k=0
 hlt:n<2^42
 hle:n*n≤N
 hgt:N<(n+2^k)*(n+2^k)
 heq:rtAux N k n=rtN N
theorem Rt.start {N:Nat} (h:N<2^84):Rt N 42 0:=
 {hd:=by simp,hlt:=by decide,hle:=by simp,hgt:=by rw[Nat.zero_add,←Nat.pow_add];exact h,heq:=rfl}
theorem Rt.no {N k n:Nat} (h:Rt N (k+1) n) (hx:¬(n+2^k)*(n+2^k)≤N):Rt N k n:=by
 refine {hd:=?_,hlt:=h.hlt,hle:=h.hle,hgt:=by omega,heq:=?_}
 ·
  have h1:=Nat.div_add_mod n (2^(k+1))
  rw[h.hd,Nat.add_zero,Nat.pow_succ,Nat.mul_assoc] at h1
  rw[←h1,Nat.mul_mod_right]
 ·
  rw[←h.heq];show _=rtAux N k (if _ then _ else _);rw[if_neg hx]
structure Fr where
 nm:ByteArray
 kind:Int
 by_:Int
 least:Bool
def rowsL:List Fr:=[
 ⟨⟨#[97,118,101,114,97,103,101,65,98,111,118,101]⟩,5,1,false⟩,
 ⟨⟨#[97,118,101,114,97,103,101,66,101,108,111,119]⟩,6,1,false⟩,
 ⟨⟨#[99,117,114,114,101,110,116,65,98,111,118,101]⟩,5,3,false⟩,
 ⟨⟨#[99,117,114,114,101,110,116,66,101,108,111,119]⟩,6,3,false⟩,
 ⟨⟨#[101,120,99,108,117,100,101]⟩,0,0,false⟩,
 ⟨⟨#[103,114,101,112]⟩,0,0,false⟩,
 ⟨⟨#[104,105,103,104,101,115,116,65,118,101,114,97,103,101]⟩,4,1,false⟩,
 ⟨⟨#[104,105,103,104,101,115,116,67,117,114,114,101,110,116]⟩,4,3,false⟩,
 ⟨⟨#[104,105,103,104,101,115,116,77,97,120]⟩,4,4,false⟩,
 ⟨⟨#[108,105,109,105,116]⟩,1,0,false⟩,
 ⟨⟨#[108,111,119,101,115,116,65,118,101,114,97,103,101]⟩,4,1,true⟩,
 ⟨⟨#[108,111,119,101,115,116,67,117,114,114,101,110,116]⟩,4,3,true⟩,
 ⟨⟨#[109,97,120,105,109,117,109,65,98,111,118,101]⟩,5,4,false⟩,
 ⟨⟨#[109,97,120,105,109,117,109,66,101,108,111,119]⟩,6,4,false⟩,
 ⟨⟨#[109,105,110,105,109,117,109,65,98,111,118,101]⟩,5,5,false⟩,
 ⟨⟨#[109,105,110,105,109,117,109,66,101,108,111,119]⟩,6,5,false⟩,
 ⟨⟨#[109,111,115,116,68,101,118,105,97,110,116]⟩,4,6,false⟩,
 ⟨⟨#[114,101,109,111,118,101,69,109,112,116,121,83,101,114,105,101,115]⟩,7,0,false⟩,
 ⟨⟨#[115,111,114,116,66,121,77,97,120,105,109,97]⟩,3,4,false⟩,
 ⟨⟨#[115,111,114,116,66,121,77,105,110,105,109,97]⟩,3,5,true⟩,
 ⟨⟨#[115,111,114,116,66,121,78,97,109,101]⟩,2,0,false⟩,
 ⟨⟨#[115,111,114,116,66,121,84,111,116,97,108]⟩,3,2,false⟩]
def noFr:Fr:=⟨⟨#[]⟩,0,0,false⟩
def isNm (a:ByteArray) (r:Fr):Bool:=r.nm.toList==a.toList
def findF (a:ByteArray):Option Fr:=rowsL.find? (isNm a)
def rowF (a:ByteArray):Fr:=(findF a).getD noFr
def sqF (m v:Vl):Vl:=mulV (subV v m) (subV v m)
def sqL (l:List Vl):List Vl:=(kn l).map (sqF (aggV 1 (kn l)))
def devV (l:List Vl):Vl:=bif (sqL l).all (·.ok) then sqrtV (aggV 1 (sqL l)) else ⟨false,0⟩
def ofR (by_:Int) (l:List Vl):Vl:=if by_=6 then devV l else aggV by_ l
def cmpI (a b:Int):Int:=if a<b then -1 else if b<a then 1 else 0
def cmpV (least:Bool) (x y:Vl):Int:=
 bif x.ok then (bif y.ok then (bif least then cmpI x.n y.n else cmpI y.n x.n) else -1) else (bif y.ok then 1 else 0)
def ltV (least:Bool) (x y:Vl):Bool:=x.ok&&(!y.ok||(bif least then decide (x.n<y.n) else decide (y.n<x.n)))
theorem cmpI_lt (a b:Int):decide (cmpI a b<0)=decide (a<b):=by
 unfold cmpI
 by_cases h:a<b
 ·
  simp[h]
 ·
  by_cases h':b<a<;>simp[h,h']
theorem cmpV_lt (least:Bool) (x y:Vl):decide (cmpV least x y<0)=ltV least x y:=by
 obtain ⟨xo,xn⟩:=x
 obtain ⟨yo,yn⟩:=y
 cases xo<;>cases yo<;>cases least<;>first|rfl|exact cmpI_lt _ _
def ltN (a b:ByteArray):Bool:=Op.bytesLess a.toList b.toList
section
variable {α β:Type}
def posR (lt:α→α→Bool) (x:α) (out:List α):Nat→Nat
 | 0=>0
 | k+1=>match out[k]? with
  | some y=>bif lt x y then posR lt x out k else k+1
  | none=>k+1
def insR (lt:α→α→Bool) (out:List α) (x:α):List α:=out.take (posR lt x out out.length)++x::out.drop (posR lt x out out.length)
def sortR (lt:α→α→Bool) (l:List α):List α:=l.foldl (insR lt) []
theorem posR_le (lt:α→α→Bool) (x:α) (out:List α):∀k,posR lt x out k≤k
 | 0=>Nat.le_refl _
 | k+1=>by
  unfold posR
  split
  ·
   cases lt x _
   ·
    exact Nat.le_refl _
   ·
    exact Nat.le_succ_of_le (posR_le lt x out k)
  ·
   exact Nat.le_refl _
theorem insR_len (lt:α→α→Bool) (out:List α) (x:α):(insR lt out x).length=out.length+1:=by
 have:=posR_le lt x out out.length
 unfold insR
 simp only[List.length_append,List.length_cons,List.length_take,List.length_drop]
 omega
theorem sortR_len_aux (lt:α→α→Bool) (l:List α):∀o:List α,(l.foldl (insR lt) o).length=o.length+l.length:=by
 induction l with
 | nil=>intro o;rfl
 | cons x l ih=>intro o;rw[List.foldl_cons,ih,insR_len,List.length_cons];omega
theorem sortR_len (lt:α→α→Bool) (l:List α):(sortR lt l).length=l.length:=by
 unfold sortR;rw[sortR_len_aux];simp
theorem insR_mem (lt:α→α→Bool) (out:List α) (x y:α):y∈insR lt out x↔y=x∨y∈out:=by
 unfold insR
 rw[List.mem_append,List.mem_cons]
 constructor
 ·
  rintro (h|h|h)
  ·
   exact .inr (List.mem_of_mem_take h)
  ·
   exact .inl h
  ·
   exact .inr (List.mem_of_mem_drop h)
 ·
  rintro (h|h)
  ·
   exact .inr (.inl h)
  ·
   have h2:y∈out.take (posR lt x out out.length)++out.drop (posR lt x out out.length):=by rw[List.take_append_drop];exact h
   rcases List.mem_append.1 h2 with h3|h3
   ·
    exact .inl h3
   ·
    exact .inr (.inr h3)
theorem sortR_mem_aux (lt:α→α→Bool) (l:List α):∀(o:List α) (y:α),y∈l.foldl (insR lt) o↔y∈o∨y∈l:=by
 induction l with
 | nil=>intro o y;simp
 | cons x l ih=>
  intro o y
  rw[List.foldl_cons,ih,insR_mem,List.mem_cons]
  constructor
  ·
   rintro ((h|h)|h)
   ·
    exact .inr (.inl h)
   ·
    exact .inl h
   ·
    exact .inr (.inr h)
  ·
   rintro (h|h|h)
   ·
    exact .inl (.inr h)
   ·
    exact .inl (.inl h)
   ·
    exact .inr h
theorem sortR_mem (lt:α→α→Bool) (l:List α) (y:α):y∈sortR lt l↔y∈l:=by
 unfold sortR;rw[sortR_mem_aux];simp
theorem posR_map (f:α→β) (lt:β→β→Bool) (x:α) (out:List α):∀k,posR lt (f x) (out.map f) k=posR (fun a b=>lt (f a) (f b)) x out k
 | 0=>rfl
 | k+1=>by
  unfold posR
  rw[List.getElem?_map]
  cases out[k]? with
  | none=>rfl
  | some y=>simp only[Option.map_some];rw[posR_map f lt x out k]
theorem insR_map (f:α→β) (lt:β→β→Bool) (x:α) (out:List α):(insR (fun a b=>lt (f a) (f b)) out x).map f=insR lt (out.map f) (f x):=by
 unfold insR
 rw[List.length_map,posR_map]
 simp
theorem sortR_map_aux (f:α→β) (lt:β→β→Bool) (l:List α):∀o:List α,(l.foldl (insR (fun a b=>lt (f a) (f b))) o).map f=(l.map f).foldl (insR lt) (o.map f):=by
 induction l with
 | nil=>intro o;rfl
 | cons x l ih=>intro o;rw[List.foldl_cons,ih,insR_map,List.map_cons,List.foldl_cons]
theorem sortR_map (f:α→β) (lt:β→β→Bool) (l:List α):(sortR (fun a b=>lt (f a) (f b)) l).map f=sortR lt (l.map f):=sortR_map_aux f lt l []
def firstN (k:Vl) (n:Nat):Nat:=if k.ok=true∧0≤k.n then min n (k.n/1000000).toNat else 0
def firstL (k:Vl) (l:List α):List α:=l.take (firstN k l.length)
def pickA (g:α→Sr) (r:Fr) (k:Vl) (l:List α):List α:=
 if r.kind=1 then firstL k l
 else if r.kind=2 then sortR (fun a b=>ltN (g a).name (g b).name) l
 else if r.kind=3 then sortR (fun a b=>ltV r.least (ofR r.by_ (g a).vals) (ofR r.by_ (g b).vals)) l
 else if r.kind=4 then firstL k (sortR (fun a b=>ltV r.least (ofR r.by_ (g a).vals) (ofR r.by_ (g b).vals)) l)
 else if r.kind=5 then l.filter fun a=>lessB k (ofR r.by_ (g a).vals)
 else if r.kind=6 then l.filter fun a=>(ofR r.by_ (g a).vals).ok&&(k.ok&&decide ((ofR r.by_ (g a).vals).n≤k.n))
 else l.filter fun a=> !(kn (g a).vals).isEmpty
theorem firstL_map (f:α→β) (k:Vl) (l:List α):(firstL k l).map f=firstL k (l.map f):=by
 unfold firstL;rw[List.map_take,List.length_map]
theorem pickA_map (f:α→β) (g:β→Sr) (r:Fr) (k:Vl) (l:List α):(pickA (fun a=>g (f a)) r k l).map f=pickA g r k (l.map f):=by
 unfold pickA
 repeat' split
 ·
  exact firstL_map f k l
 ·
  exact sortR_map f (fun a b=>ltN (g a).name (g b).name) l
 ·
  exact sortR_map f (fun a b=>ltV r.least (ofR r.by_ (g a).vals) (ofR r.by_ (g b).vals)) l
 ·
  rw[firstL_map];congr 1;exact sortR_map f (fun a b=>ltV r.least (ofR r.by_ (g a).vals) (ofR r.by_ (g b).vals)) l
 ·
  rw[List.filter_map];rfl
 ·
  rw[List.filter_map];rfl
 ·
  rw[List.filter_map];rfl
theorem pickA_mem (g:α→Sr) (r:Fr) (k:Vl) (l:List α) (x:α) (h:x∈pickA g r k l):x∈l:=by
 unfold pickA at h
 repeat' split at h
 ·
  exact List.mem_of_mem_take h
 ·
  exact (sortR_mem _ _ _).1 h
 ·
  exact (sortR_mem _ _ _).1 h
 ·
  exact (sortR_mem _ _ _).1 (List.mem_of_mem_take h)
 ·
  exact (List.mem_filter.1 h).1
 ·
  exact (List.mem_filter.1 h).1
 ·
  exact (List.mem_filter.1 h).1
theorem pickA_len (g:α→Sr) (r:Fr) (k:Vl) (l:List α):(pickA g r k l).length≤l.length:=by
 unfold pickA
 repeat' split
 ·
  exact List.length_take_le' _ _
 ·
  rw[sortR_len];exact Nat.le_refl _
 ·
  rw[sortR_len];exact Nat.le_refl _
 ·
  refine Nat.le_trans (List.length_take_le' _ _) ?_
  rw[sortR_len];exact Nat.le_refl _
 ·
  exact List.length_filter_le _ _
 ·
  exact List.length_filter_le _ _
 ·
  exact List.length_filter_le _ _
end
def normV (k:Vl):Vl:=bif isB k then k else ⟨false,0⟩
structure Sq where
 s:Sr
 A:Option Addr
 c:Nat
def scells (L:List Sq):List Value:=L.flatMap fun x=>[.string x.s.name, .int .i64 x.s.start, .int .i64 x.s.step, .slice x.A x.s.vals.length x.c, .int .i64 x.s.cons]
theorem scells_cons (x:Sq) (L:List Sq):scells (x::L)= .string x.s.name :: .int .i64 x.s.start :: .int .i64 x.s.step :: .slice x.A x.s.vals.length x.c :: .int .i64 x.s.cons::scells L:=rfl
theorem scells_append (L M:List Sq):scells (L++M)=scells L++scells M:=by simp[scells]
theorem scells_length (L:List Sq):(scells L).length=L.length*5:=by
 induction L with
 | nil=>rfl
 | cons v l ih=>rw[scells_cons];simp only[List.length_cons,ih];omega
theorem scells_at (L:List Sq):∀(k:Nat) (h:k<L.length),(scells L)[k*5]?=some (.string L[k].s.name)∧(scells L)[k*5+1]?=some (.int .i64 L[k].s.start)∧(scells L)[k*5+2]?=some (.int .i64 L[k].s.step)∧(scells L)[k*5+3]?=some (.slice L[k].A L[k].s.vals.length L[k].c)∧(scells L)[k*5+4]?=some (.int .i64 L[k].s.cons):=by
 induction L with
 | nil=>intro k h;simp at h
 | cons v l ih=>
  intro k h
  rw[scells_cons]
  match k,h with
  | 0,_=>exact ⟨rfl,rfl,rfl,rfl,rfl⟩
  | k+1,h=>
   have hk:k<l.length:=by simp only[List.length_cons] at h;omega
   have e:(k+1)*5=k*5+1+1+1+1+1:=by omega
   have e1:k*5+1+1+1+1+1+1=k*5+1+1+1+1+1+1:=rfl
   have e2:k*5+1+1+1+1+1+2=k*5+2+1+1+1+1+1:=by omega
   have e3:k*5+1+1+1+1+1+3=k*5+3+1+1+1+1+1:=by omega
   have e4:k*5+1+1+1+1+1+4=k*5+4+1+1+1+1+1:=by omega
   rw[e,e2,e3,e4]
   simp only[List.getElem?_cons_succ,List.getElem_cons_succ]
   exact ih k hk
def Rl (w:World) (A:Option Addr) (L:List Sq):Prop:=Rd w 5 A L.length (scells L)
theorem Rl.gr {w w':World} {A:Option Addr} {L:List Sq} (h:Rl w A L) (g:Gr w w'):Rl w' A L:=Rd.gr h g
theorem Rl.at {w:World} {A:Option Addr} {L:List Sq} (h:Rl w A L) {k:Nat} (hk:k<L.length):∃ad:Addr,A=some ad∧ad.block<w.heap.size∧w.cell? (ad.add (k*5))=some (.string L[k].s.name)∧w.cell? ⟨(ad.add (k*5)).block,(ad.add (k*5)).off+1,none⟩=some (.int .i64 L[k].s.start)∧w.cell? ⟨(ad.add (k*5)).block,(ad.add (k*5)).off+2,none⟩=some (.int .i64 L[k].s.step)∧w.cell? ⟨(ad.add (k*5)).block,(ad.add (k*5)).off+3,none⟩=some (.slice L[k].A L[k].s.vals.length L[k].c)∧w.cell? ⟨(ad.add (k*5)).block,(ad.add (k*5)).off+4,none⟩=some (.int .i64 L[k].s.cons):=by
 obtain ⟨ad,e,hb,hc⟩:=h.2 (by omega)
 obtain ⟨s0,s1,s2,s3,s4⟩:=scells_at L k hk
 exact ⟨ad,e,hb,hc _ _ s0,(congrArg w.cell? (add_next ad (k*5) 0)).symm.trans (hc _ _ s1),(congrArg w.cell? (add_next ad (k*5) 1)).symm.trans (hc _ _ s2),(congrArg w.cell? (add_next ad (k*5) 2)).symm.trans (hc _ _ s3),(congrArg w.cell? (add_next ad (k*5) 3)).symm.trans (hc _ _ s4)⟩
theorem Rl.new {W:World} {B:Nat} (hB:B=W.heap.size) (T:TypeId) (L:List Sq):Rl (W.alloc (.cells (scells L).toArray T)) (some ⟨B,0,none⟩) L:=by
 subst hB
 refine ⟨scells_length L,fun _=>⟨_,rfl,by simp,fun j u hu=>?_⟩⟩
 have e:(⟨W.heap.size,0,none⟩:Addr).add j=⟨W.heap.size,j,none⟩:=by
  unfold Addr.add;split
  ·
   rename_i h;subst h;rfl
  ·
   rw[Nat.zero_add]
 rw[e]
 exact (cell_of_row _ _ _ _ _ _ (heap_alloc_new W _)).trans (by simpa using hu)
def Light (L:List Sq):Prop:=L.length≤20∧∀x∈L,(x.s.vals.length:Int)≤120∧(x.s.name.size:Int)≤300
theorem light_at {L:List Sq} {k:Nat} (hk:k<L.length) (h:∀j (hj:j<L.length),j<k→(L[j].s.vals.length:Int)≤120∧(L[j].s.name.size:Int)≤300) (h1:(L[k].s.vals.length:Int)≤120) (h2:(L[k].s.name.size:Int)≤300) :
  ∀j (hj:j<L.length),j<k+1→(L[j].s.vals.length:Int)≤120∧(L[j].s.name.size:Int)≤300:=by
 intro j hj hjk
 by_cases e:j=k
 ·
  subst e;exact ⟨h1,h2⟩
 ·
  exact h j hj (by omega)
def RetH (L:List Sq) (w:World) (e:Ending) (w':World):Prop:=(∃b:Bool,e= .returned (.bool b)∧(b=false→Light L))∧Gr w w'
end Go.Proofs.YtnphdacibageiaaGreat
