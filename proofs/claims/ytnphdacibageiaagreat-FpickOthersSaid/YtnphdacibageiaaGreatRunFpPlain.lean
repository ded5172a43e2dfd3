import Derived.Test.YtnphdacibageiaaGreatRunFxMul
import Derived.Sort.Defs
import Derived.Test.YtnphdacibageiaaGreatRunFxBase
import Derived.Lib.Hide
import Derived.Outline
import Derived.Deep.RegionHeld3
import Derived.IntWalk
set_option linter.all false
set_option maxRecDepth 1000000
set_option maxHeartbeats 12800000
namespace Go.Proofs.YtnphdacibageiaaGreat
open Go.RowKit
structure Fr where
 nm:ByteArray
 kind:Int
 by_:Int
 least:Bool
def rowsL:List Fr:=[
 ⟨⟨#[97,118,101,114,97,103,101,65,98,111,118,101]⟩,5,1,false⟩,
 ⟨⟨#[97,118,101,114,97,103,101,66,101,108,111,119]⟩,6,1,false⟩,
 ⟨⟨#[99,117,114,114,101,110,116,65,98,111,118,101]⟩,5,3,false⟩,
 ⟨⟨#[99,117,114,114,101,110,116,66,101,108,111,119]⟩,6,3,false⟩,
 ⟨⟨#[101,120,99,108,117,100,101]⟩,0,0,false⟩,
 ⟨⟨#[103,114,101,112]⟩,0,0,false⟩,
 ⟨⟨#[104,105,103,104,101,115,116,65,118,101,114,97,103,101]⟩,4,1,false⟩,
 ⟨⟨#[104,105,103,104,101,115,116,67,117,114,114,101,110,116]⟩,4,3,false⟩,
 ⟨⟨#[104,105,103,104,101,115,116,77,97,120]⟩,4,4,false⟩,
 ⟨⟨#[108,105,109,105,116]⟩,1,0,false⟩,
 ⟨⟨#[108,111,119,101,115,116,65,118,101,114,97,103,101]⟩,4,1,true⟩,
 ⟨⟨#[108,111,119,101,115,116,67,117,114,114,101,110,116]⟩,4,3,true⟩,
 ⟨⟨#[109,97,120,105,109,117,109,65,98,111,118,101]⟩,5,4,false⟩,
 ⟨⟨#[109,97,120,105,109,117,109,66,101,108,111,119]⟩,6,4,false⟩,
 ⟨⟨#[109,105,110,105,109,117,109,65,98,111,118,101]⟩,5,5,false⟩,
 ⟨⟨#[109,105,110,105,109,117,109,66,101,108,111,119]⟩,6,5,false⟩,
 ⟨⟨#[109,111,115,116,68,101,118,105,97,110,116]⟩,4,6,false⟩,
 ⟨⟨#[114,101,109,111,118,101,69,109,112,116,121,83,101,114,105,101,115]⟩,7,0,false⟩,
 ⟨⟨#[115,111,114,116,66,121,77,97,120,105,109,97]⟩,3,4,false⟩,
 ⟨⟨#[115,111,114,116,66,121,77,105,110,105,109,97]⟩,3,5,true⟩,
 ⟨⟨#[115,111,114,116,66,121,78,97,109,101]⟩,2,0,false⟩,
 ⟨⟨#[115,111,114,116,66,121,84,111,116,97,108]⟩,3,2,false⟩]
def noFr:Fr:=⟨⟨#[]⟩,0,0,false⟩
def isNm (a:ByteArray) (r:Fr):Bool:=r.nm.toList==a.toList
def findF (a:ByteArray):Option Fr:=rowsL.find? (isNm a)
def rowF (a:ByteArray):Fr:=(findF a).getD noFr
def sqF (m v:Vl):Vl:=mulV (subV v m) (subV v m)
def sqL (l:List Vl):List Vl:=(kn l).map (sqF (aggV 1 (kn l)))
def devV (l:List Vl):Vl:=bif (sqL l).all (·.ok) then sqrtV (aggV 1 (sqL l)) else ⟨false,0⟩
def ofR (by_:Int) (l:List Vl):Vl:=if by_=6 then devV l else aggV by_ l
def cmpI (a b:Int):Int:=if a<b then -1 else if b<a then 1 else 0
def cmpV (least:Bool) (x y:Vl):Int:=
 bif x.ok then (bif y.ok then (bif least then cmpI x.n y.n else cmpI y.n x.n) else -1) else (bif y.ok then 1 else 0)
def ltV (least:Bool) (x y:Vl):Bool:=x.ok&&(!y.ok||(bif least then decide (x.n<y.n) else decide (y.n<x.n)))
theorem cmpI_lt (a b:Int):decide (cmpI a b<0)=decide (a<b):=by
 unfold cmpI
 by_cases h:a<b
 ·
  simp[h]
 ·
  by_cases h':b<a<;>simp[h,h']
theorem cmpV_lt (least:Bool) (x y:Vl):decide (cmpV least x y<0)=ltV least x y:=by
 obtain ⟨xo,xn⟩:=x
 obtain ⟨yo,yn⟩:=y
 cases xo<;>cases yo<;>cases least<;>first|rfl|exact cmpI_lt _ _
def ltN (a b:ByteArray):Bool:=Op.bytesLess a.toList b.toList
section
variable {α β:Type}
def posR (lt:α→α→Bool) (x:α) (out:List α):Nat→Nat
 | 0=>0
 | k+1=>match out[k]? with
  | some y=>bif lt x y then posR lt x out k else k+1
  | none=>k+1
def insR (lt:α→α→Bool) (out:List α) (x:α):List α:=out.take (posR lt x out out.length)++x::out.drop (posR lt x out out.length)
def sortR (lt:α→α→Bool) (l:List α):List α:=l.foldl (insR lt) []
theorem posR_le (lt:α→α→Bool) (x:α) (out:List α):∀k,posR lt x out k≤k
 | 0=>Nat.le_refl _
 | k+1=>by
  unfold posR
  split
  ·
   cases lt x _
   ·
    exact Nat.le_refl _
   ·
    exact Nat.le_succ_of_le (posR_le lt x out k)
  ·
   exact Nat.le_refl _
theorem insR_len (lt:α→α→Bool) (out:List α) (x:α):(insR lt out x).length=out.length+1:=by
 have:=posR_le lt x out out.length
 unfold insR
 simp only[List.length_append,List.length_cons,List.length_take,List.length_drop]
 omega
theorem sortR_len_aux (lt:α→α→Bool) (l:List α):∀o:List α,(l.foldl (insR lt) o).length=o.length+l.length:=by
 induction l with
 | nil=>intro o;rfl
 | cons x l ih=>intro o;rw[List.foldl_cons,ih,insR_len,List.length_cons];omega
theorem sortR_len (lt:α→α→Bool) (l:List α):(sortR lt l).length=l.length:=by
 unfold sortR;rw[sortR_len_aux];simp
theorem sortR_succ (lt:α→α→Bool) (l:List α) {k:Nat} (h:k<l.length):sortR lt (l.take (k+1))=insR lt (sortR lt (l.take k)) l[k]:=by
 unfold sortR
 rw[List.take_succ_eq_append_getElem h,List.foldl_append]
 rfl
theorem insR_mem (lt:α→α→Bool) (out:List α) (x y:α):y∈insR lt out x↔y=x∨y∈out:=by
 unfold insR
 rw[List.mem_append,List.mem_cons]
 constructor
 ·
  rintro (h|h|h)
  ·
   exact .inr (List.mem_of_mem_take h)
  ·
   exact .inl h
  ·
   exact .inr (List.mem_of_mem_drop h)
 ·
  rintro (h|h)
  ·
   exact .inr (.inl h)
  ·
   have h2:y∈out.take (posR lt x out out.length)++out.drop (posR lt x out out.length):=by rw[List.take_append_drop];exact h
   rcases List.mem_append.1 h2 with h3|h3
   ·
    exact .inl h3
   ·
    exact .inr (.inr h3)
theorem sortR_mem_aux (lt:α→α→Bool) (l:List α):∀(o:List α) (y:α),y∈l.foldl (insR lt) o↔y∈o∨y∈l:=by
 induction l with
 | nil=>intro o y;simp
 | cons x l ih=>
  intro o y
  rw[List.foldl_cons,ih,insR_mem,List.mem_cons]
  constructor
  ·
   rintro ((h|h)|h)
   ·
    exact .inr (.inl h)
   ·
    exact .inl h
   ·
    exact .inr (.inr h)
  ·
   rintro (h|h|h)
   ·
    exact .inl (.inr h)
   ·
    exact .inl (.inl h)
   ·
    exact .inr h
theorem sortR_mem (lt:α→α→Bool) (l:List α) (y:α):y∈sortR lt l↔y∈l:=by
 unfold sortR;rw[sortR_mem_aux];simp
theorem posR_map (f:α→β) (lt:β→β→Bool) (x:α) (out:List α):∀k,posR lt (f x) (out.map f) k=posR (fun a b=>lt (f a) (f b)) x out k
 | 0=>rfl
 | k+1=>by
  unfold posR
  rw[List.getElem?_map]
  cases out[k]? with
  | none=>rfl
  | some y=>simp only[Option.map_some];rw[posR_map f lt x out k]
theorem insR_map (f:α→β) (lt:β→β→Bool) (x:α) (out:List α):(insR (fun a b=>lt (f a) (f b)) out x).map f=insR lt (out.map f) (f x):=by
 unfold insR
 rw[List.length_map,posR_map]
 simp
theorem sortR_map_aux (f:α→β) (lt:β→β→Bool) (l:List α):∀o:List α,(l.foldl (insR (fun a b=>lt (f a) (f b))) o).map f=(l.map f).foldl (insR lt) (o.map f):=by
 induction l with
 | nil=>intro o;rfl
 | cons x l ih=>intro o;rw[List.foldl_cons,ih,insR_map,List.map_cons,List.foldl_cons]
theorem sortR_map (f:α→β) (lt:β→β→Bool) (l:List α):(sortR (fun a b=>lt (f a) (f b)) l).map f=sortR lt (l.map f):=sortR_map_aux f lt l []
def firstN (k:Vl) (n:Nat):Nat:=if k.ok=true∧0≤k.n then min n (k.n/1000000).toNat else 0
def firstL (k:Vl) (l:List α):List α:=l.take (firstN k l.length)
def pickA (g:α→Sr) (r:Fr) (k:Vl) (l:List α):List α:=
 if r.kind=1 then firstL k l
 else if r.kind=2 then sortR (fun a b=>ltN (g a).name (g b).name) l
 else if r.kind=3 then sortR (fun a b=>ltV r.least (ofR r.by_ (g a).vals) (ofR r.by_ (g b).vals)) l
 else if r.kind=4 then firstL k (sortR (fun a b=>ltV r.least (ofR r.by_ (g a).vals) (ofR r.by_ (g b).vals)) l)
 else if r.kind=5 then l.filter fun a=>lessB k (ofR r.by_ (g a).vals)
 else if r.kind=6 then l.filter fun a=>(ofR r.by_ (g a).vals).ok&&(k.ok&&decide ((ofR r.by_ (g a).vals).n≤k.n))
 else l.filter fun a=> !(kn (g a).vals).isEmpty
theorem firstL_map (f:α→β) (k:Vl) (l:List α):(firstL k l).map f=firstL k (l.map f):=by
 unfold firstL;rw[List.map_take,List.length_map]
theorem pickA_map (f:α→β) (g:β→Sr) (r:Fr) (k:Vl) (l:List α):(pickA (fun a=>g (f a)) r k l).map f=pickA g r k (l.map f):=by
 unfold pickA
 repeat' split
 ·
  exact firstL_map f k l
 ·
  exact sortR_map f (fun a b=>ltN (g a).name (g b).name) l
 ·
  exact sortR_map f (fun a b=>ltV r.least (ofR r.by_ (g a).vals) (ofR r.by_ (g b).vals)) l
 ·
  rw[firstL_map];congr 1;exact sortR_map f (fun a b=>ltV r.least (ofR r.by_ (g a).vals) (ofR r.by_ (g b).vals)) l
 ·
  rw[List.filter_map];rfl
 ·
  rw[List.filter_map];rfl
 ·
  rw[List.filter_map];rfl
theorem pickA_mem (g:α→Sr) (r:Fr) (k:Vl) (l:List α) (x:α) (h:x∈pickA g r k l):x∈l:=by
 unfold pickA at h
 repeat' split at h
 ·
  exact List.mem_of_mem_take h
 ·
  exact (sortR_mem _ _ _).1 h
 ·
  exact (sortR_mem _ _ _).1 h
 ·
  exact (sortR_mem _ _ _).1 (List.mem_of_mem_take h)
 ·
  exact (List.mem_filter.1 h).1
 ·
  exact (List.mem_filter.1 h).1
 ·
  exact (List.mem_filter.1 h).1
theorem pickA_len (g:α→Sr) (r:Fr) (k:Vl) (l:List α):(pickA g r k l).length≤l.length:=by
 unfold pickA
 repeat' split
 ·
  exact List.length_take_le' _ _
 ·
  rw[sortR_len];exact Nat.le_refl _
 ·
  rw[sortR_len];exact Nat.le_refl _
 ·
  refine Nat.le_trans (List.length_take_le' _ _) ?_
  rw[sortR_len];exact Nat.le_refl _
 ·
  exact List.length_filter_le _ _
 ·
  exact List.length_filter_le _ _
 ·
  exact List.length_filter_le _ _
end
def normV (k:Vl):Vl:=bif isB k then k else ⟨false,0⟩
structure Sq where
 s:Sr
 A:Option Addr
 c:Nat
def scells (L:List Sq):List Value:=L.flatMap fun x=>[.string x.s.name, .int .i64 x.s.start, .int .i64 x.s.step, .slice x.A x.s.vals.length x.c, .int .i64 x.s.cons]
theorem scells_cons (x:Sq) (L:List Sq):scells (x::L)= .string x.s.name :: .int .i64 x.s.start :: .int .i64 x.s.step :: .slice x.A x.s.vals.length x.c :: .int .i64 x.s.cons::scells L:=rfl
theorem scells_append (L M:List Sq):scells (L++M)=scells L++scells M:=by simp[scells]
theorem scells_length (L:List Sq):(scells L).length=L.length*5:=by
 induction L with
 | nil=>rfl
 | cons v l ih=>rw[scells_cons];simp only[List.length_cons,ih];omega
theorem scells_at (L:List Sq):∀(k:Nat) (h:k<L.length),(scells L)[k*5]?=some (.string L[k].s.name)∧(scells L)[k*5+1]?=some (.int .i64 L[k].s.start)∧(scells L)[k*5+2]?=some (.int .i64 L[k].s.step)∧(scells L)[k*5+3]?=some (.slice L[k].A L[k].s.vals.length L[k].c)∧(scells L)[k*5+4]?=some (.int .i64 L[k].s.cons):=by
 induction L with
 | nil=>intro k h;simp at h
 | cons v l ih=>
  intro k h
  rw[scells_cons]
  match k,h with
  | 0,_=>exact ⟨rfl,rfl,rfl,rfl,rfl⟩
  | k+1,h=>
   have hk:k<l.length:=by simp only[List.length_cons] at h;omega
   have e:(k+1)*5=k*5+1+1+1+1+1:=by omega
   have e1:k*5+1+1+1+1+1+1=k*5+1+1+1+1+1+1:=rfl
   have e2:k*5+1+1+1+1+1+2=k*5+2+1+1+1+1+1:=by omega
   have e3:k*5+1+1+1+1+1+3=k*5+3+1+1+1+1+1:=by omega
   have e4:k*5+1+1+1+1+1+4=k*5+4+1+1+1+1+1:=by omega
   rw[e,e2,e3,e4]
   simp only[List.getElem?_cons_succ,List.getElem_cons_succ]
   exact ih k hk
def Rl (w:World) (A:Option Addr) (L:List Sq):Prop:=Rd w 5 A L.length (scells L)
theorem Rl.gr {w w':World} {A:Option Addr} {L:List Sq} (h:Rl w A L) (g:Gr w w'):Rl w' A L:=Rd.gr h g
theorem Rl.at {w:World} {A:Option Addr} {L:List Sq} (h:Rl w A L) {k:Nat} (hk:k<L.length):∃ad:Addr,A=some ad∧ad.block<w.heap.size∧w.cell? (ad.add (k*5))=some (.string L[k].s.name)∧w.cell? ⟨(ad.add (k*5)).block,(ad.add (k*5)).off+1,none⟩=some (.int .i64 L[k].s.start)∧w.cell? ⟨(ad.add (k*5)).block,(ad.add (k*5)).off+2,none⟩=some (.int .i64 L[k].s.step)∧w.cell? ⟨(ad.add (k*5)).block,(ad.add (k*5)).off+3,none⟩=some (.slice L[k].A L[k].s.vals.length L[k].c)∧w.cell? ⟨(ad.add (k*5)).block,(ad.add (k*5)).off+4,none⟩=some (.int .i64 L[k].s.cons):=by
 obtain ⟨ad,e,hb,hc⟩:=h.2 (by omega)
 obtain ⟨s0,s1,s2,s3,s4⟩:=scells_at L k hk
 exact ⟨ad,e,hb,hc _ _ s0,(congrArg w.cell? (add_next ad (k*5) 0)).symm.trans (hc _ _ s1),(congrArg w.cell? (add_next ad (k*5) 1)).symm.trans (hc _ _ s2),(congrArg w.cell? (add_next ad (k*5) 2)).symm.trans (hc _ _ s3),(congrArg w.cell? (add_next ad (k*5) 3)).symm.trans (hc _ _ s4)⟩
theorem Rl.new {W:World} {B:Nat} (hB:B=W.heap.size) (T:TypeId) (L:List Sq):Rl (W.alloc (.cells (scells L).toArray T)) (some ⟨B,0,none⟩) L:=by
 subst hB
 refine ⟨scells_length L,fun _=>⟨_,rfl,by simp,fun j u hu=>?_⟩⟩
 have e:(⟨W.heap.size,0,none⟩:Addr).add j=⟨W.heap.size,j,none⟩:=by
  unfold Addr.add;split
  ·
   rename_i h;subst h;rfl
  ·
   rw[Nat.zero_add]
 rw[e]
 exact (cell_of_row _ _ _ _ _ _ (heap_alloc_new W _)).trans (by simpa using hu)
def Light (L:List Sq):Prop:=L.length≤20∧∀x∈L,(x.s.vals.length:Int)≤120∧(x.s.name.size:Int)≤300
theorem light_at {L:List Sq} {k:Nat} (hk:k<L.length) (h:∀j (hj:j<L.length),j<k→(L[j].s.vals.length:Int)≤120∧(L[j].s.name.size:Int)≤300) (h1:(L[k].s.vals.length:Int)≤120) (h2:(L[k].s.name.size:Int)≤300) :
  ∀j (hj:j<L.length),j<k+1→(L[j].s.vals.length:Int)≤120∧(L[j].s.name.size:Int)≤300:=by
 intro j hj hjk
 by_cases e:j=k
 ·
  subst e;exact ⟨h1,h2⟩
 ·
  exact h j hj (by omega)
def RetH (L:List Sq) (w:World) (e:Ending) (w':World):Prop:=(∃b:Bool,e= .returned (.bool b)∧(b=false→Light L))∧Gr w w'
def rowcells (L:List Fr):List Value:=L.flatMap fun r=>[.string r.nm, .int .i64 r.kind, .int .i64 r.by_, .bool r.least]
theorem rowcells_cons (r:Fr) (L:List Fr):rowcells (r::L)= .string r.nm :: .int .i64 r.kind :: .int .i64 r.by_ :: .bool r.least::rowcells L:=rfl
theorem rowcells_length (L:List Fr):(rowcells L).length=L.length*4:=by
 induction L with
 | nil=>rfl
 | cons v l ih=>rw[rowcells_cons];simp only[List.length_cons,ih];omega
theorem rowcells_at (L:List Fr):∀(k:Nat) (h:k<L.length),(rowcells L)[k*4]?=some (.string L[k].nm)∧(rowcells L)[k*4+1]?=some (.int .i64 L[k].kind)∧(rowcells L)[k*4+2]?=some (.int .i64 L[k].by_)∧(rowcells L)[k*4+3]?=some (.bool L[k].least):=by
 induction L with
 | nil=>intro k h;simp at h
 | cons v l ih=>
  intro k h
  rw[rowcells_cons]
  match k,h with
  | 0,_=>exact ⟨rfl,rfl,rfl,rfl⟩
  | k+1,h=>
   have hk:k<l.length:=by simp only[List.length_cons] at h;omega
   have e:(k+1)*4=k*4+1+1+1+1:=by omega
   have e2:k*4+1+1+1+1+2=k*4+2+1+1+1+1:=by omega
   have e3:k*4+1+1+1+1+3=k*4+3+1+1+1+1:=by omega
   rw[e,e2,e3]
   simp only[List.getElem?_cons_succ,List.getElem_cons_succ]
   exact ih k hk
def Rr (w:World) (A:Option Addr) (L:List Fr):Prop:=Rd w 4 A L.length (rowcells L)
theorem Rr.gr {w w':World} {A:Option Addr} {L:List Fr} (h:Rr w A L) (g:Gr w w'):Rr w' A L:=Rd.gr h g
theorem Rr.at {w:World} {A:Option Addr} {L:List Fr} (h:Rr w A L) {k:Nat} (hk:k<L.length):∃ad:Addr,A=some ad∧ad.block<w.heap.size∧w.cell? (ad.add (k*4))=some (.string L[k].nm)∧w.cell? ⟨(ad.add (k*4)).block,(ad.add (k*4)).off+1,none⟩=some (.int .i64 L[k].kind)∧w.cell? ⟨(ad.add (k*4)).block,(ad.add (k*4)).off+2,none⟩=some (.int .i64 L[k].by_)∧w.cell? ⟨(ad.add (k*4)).block,(ad.add (k*4)).off+3,none⟩=some (.bool L[k].least):=by
 obtain ⟨ad,e,hb,hc⟩:=h.2 (by omega)
 obtain ⟨s0,s1,s2,s3⟩:=rowcells_at L k hk
 exact ⟨ad,e,hb,hc _ _ s0,(congrArg w.cell? (add_next ad (k*4) 0)).symm.trans (hc _ _ s1),(congrArg w.cell? (add_next ad (k*4) 1)).symm.trans (hc _ _ s2),(congrArg w.cell? (add_next ad (k*4) 2)).symm.trans (hc _ _ s3)⟩
theorem Rd.new {W:World} {B size n:Nat} (hB:B=W.heap.size) (T:TypeId) (xs:List Value) (hl:xs.length=n*size):Rd (W.alloc (.cells xs.toArray T)) size (some ⟨B,0,none⟩) n xs:=by
 subst hB
 refine ⟨hl,fun _=>⟨_,rfl,by simp,fun j u hu=>?_⟩⟩
 have e:(⟨W.heap.size,0,none⟩:Addr).add j=⟨W.heap.size,j,none⟩:=by
  unfold Addr.add;split
  ·
   rename_i h;subst h;rfl
  ·
   rw[Nat.zero_add]
 rw[e]
 exact (cell_of_row _ _ _ _ _ _ (heap_alloc_new W _)).trans (by simpa using hu)
def RetRows (w:World) (e:Ending) (w':World):Prop:=∃A,e= .returned (.slice A rowsL.length 22)∧Rr w' A rowsL∧Gr w w'
theorem rows_any (w:World):Calls Tryz.prog 16 #[] w (RetRows w):=by
 go_enter Tryz.func16,Tryz.ntmps16
 go_wp2
 go_ret
 exact ⟨_,rfl,Rd.new rfl _ (rowcells rowsL) (rowcells_length _),Gr.alloc (Gr.refl _) _⟩
theorem look_any (r:Fr) (B:Nat) (nm:ByteArray) (w:World) (hB:w.cell? ⟨B,0,none⟩=some (.string nm)) (hlt:B<w.heap.size) :
  Calls Tryz.prog 41 #[.agg #[.string r.nm, .int .i64 r.kind, .int .i64 r.by_, .bool r.least], .pointer (some ⟨B,0,none⟩)] w fun e w'=>e= .returned (.bool (isNm nm r))∧Gr w w':=by
 go_enter Tryz.func41,Tryz.ntmps41
 go_wp2
 go_ret
 exact ⟨rfl,gq⟩
def RetIdx (nm:ByteArray) (L:List Fr) (w:World) (e:Ending) (w':World):Prop:=
 ∃k:Int,e= .returned (.int .i64 k)∧((k= -1∧∀j (h:j<L.length),isNm nm L[j]=false)∨∃(i:Nat) (h:i<L.length),k=i∧isNm nm L[i]=true∧∀j (hj:j<L.length),j<i→isNm nm L[j]=false)∧Gr w w'
theorem idxr_any (A:Option Addr) (c:Nat) (L:List Fr) (B:Nat) (nm:ByteArray) (w:World) (hl:L.length≤100) (hr:Rr w A L) (hB:w.cell? ⟨B,0,none⟩=some (.string nm)) (hlt:B<w.heap.size) :
  Calls Tryz.prog 40 #[.slice A L.length c, .func (.func 41) #[] #[.pointer (some ⟨B,0,none⟩)]] w (RetIdx nm L w):=by
 have hl':(L.length:Int)≤100:=by omega
 have HB:=Lib.hid hB
 clear hB hl
 go_enter Tryz.func40,Tryz.ntmps40
 go_wp2
 go_loopw [5,8] (fun _ i wr=>∃k:Nat,k≤L.length∧i= .int .i64 k∧Gr w wr∧Hid (∀j (h:j<L.length),j<k→isNm nm L[j]=false)) (fun _ i _=>L.length-(intOf i).toNat)
 case atStart=>exact ⟨0,Nat.zero_le _,rfl,Gr.refl _,Lib.hid (fun j _ h=>absurd h (Nat.not_lt_zero _))⟩
 case round=>
  obtain ⟨k,hk,rfl,hgr,ha⟩:=hrel
  by_cases hlt2:k<L.length
  ·
   obtain ⟨ad,rfl,hb,hx0,hx1,hx2,hx3⟩:=(hr.gr hgr).at hlt2
   have Q:=fun w hB hlt=>look_any L[k] B nm w hB hlt
   cases hx:isNm nm L[k]
   ·
    have Ht:Hid (∀j (h:j<L.length),j<k+1→isNm nm L[j]=false):=Lib.hid (fun j h hj=>by
     by_cases e:j=k
     ·
      subst e;exact hx
     ·
      exact ha.out j h (by omega))
    simp only[hx] at Q
    clear hx
    go_wp2_with fail
    refine (Q _ ((hgr.cell (p:=⟨B,0,none⟩) hlt).trans HB.out) (Nat.lt_of_lt_of_le hlt hgr.size)).mono ?_;rintro e w1 ⟨rfl,hg⟩
    go_wp2
    go_roundw
    case rel=>exact ⟨k+1,by omega,by go_num,gq,Ht⟩
    case measure=>simp[intOf];omega
   ·
    have Ht:Hid (isNm nm L[k]=true):=Lib.hid hx
    simp only[hx] at Q
    clear hx
    go_wp2_with fail
    refine (Q _ ((hgr.cell (p:=⟨B,0,none⟩) hlt).trans HB.out) (Nat.lt_of_lt_of_le hlt hgr.size)).mono ?_;rintro e w1 ⟨rfl,hg⟩
    go_wp2
    go_ret
    exact ⟨_,rfl, .inr ⟨k,hlt2,rfl,Ht.out,ha.out⟩,gq⟩
  ·
   have hkk:k=L.length:=by omega
   subst hkk
   go_wp2
   go_ret
   exact ⟨_,rfl, .inl ⟨rfl,fun j h=>ha.out j h h⟩,hgr⟩
theorem find_none {nm:ByteArray} {L:List Fr} (h:∀j (h:j<L.length),isNm nm L[j]=false):L.find? (isNm nm)=none:=by
 rw[List.find?_eq_none]
 intro x hx
 obtain ⟨j,hj,rfl⟩:=List.getElem_of_mem hx
 rw[h j hj];decide
theorem find_some {nm:ByteArray} {L:List Fr} {i:Nat} (hi:i<L.length) (h:isNm nm L[i]=true) (hb:∀j (hj:j<L.length),j<i→isNm nm L[j]=false):L.find? (isNm nm)=some L[i]:=by
 rw[List.find?_eq_some_iff_getElem]
 refine ⟨h,i,hi,rfl,fun j hj=>?_⟩
 rw[hb j (Nat.lt_trans hj hi) hj];rfl
def aggFr (r:Fr):Value:= .agg #[.string r.nm, .int .i64 r.kind, .int .i64 r.by_, .bool r.least]
def RetFind (nm:ByteArray) (w:World) (e:Ending) (w':World):Prop:=e= .returned (.tuple #[aggFr (rowF nm), .bool (findF nm).isSome])∧Gr w w'
theorem find_any (nm:ByteArray) (w:World):Calls Tryz.prog 18 #[.string nm] w (RetFind nm w):=by
 go_enter Tryz.func18,Tryz.ntmps18
 go_wp2_with fail
 refine (rows_any _).mono ?_;rintro e w1 ⟨A1,rfl,hrr,hg1⟩
 have hgw:Gr w w1:=gq
 have z1:=hg1.size
 simp at z1
 have z0:w.heap.size<w1.heap.size:=by omega
 have z2:w.heap.size+1<w1.heap.size:=by omega
 have q0:w1.cell? ⟨w.heap.size,0,none⟩=some (.string nm):=(hg1.cell (p:=⟨w.heap.size,0,none⟩) (by simp;omega)).trans (by go_simp)
 have p0:w1.cell? ⟨w.heap.size+1,0,none⟩=some (.string ⟨#[]⟩):=(hg1.cell (p:=⟨w.heap.size+1,0,none⟩) (by simp)).trans (by go_simp)
 have p1:w1.cell? ⟨w.heap.size+1,1,none⟩=some (.int .i64 0):=(hg1.cell (p:=⟨w.heap.size+1,1,none⟩) (by simp)).trans (by go_simp)
 have p2:w1.cell? ⟨w.heap.size+1,2,none⟩=some (.int .i64 0):=(hg1.cell (p:=⟨w.heap.size+1,2,none⟩) (by simp)).trans (by go_simp)
 have p3:w1.cell? ⟨w.heap.size+1,3,none⟩=some (.bool false):=(hg1.cell (p:=⟨w.heap.size+1,3,none⟩) (by simp)).trans (by go_simp)
 have g0:w1.frozen? ⟨w.heap.size+1,0,none⟩=false:=(hg1.frozen (p:=⟨w.heap.size+1,0,none⟩) (by simp)).trans (by go_simp)
 have g1:w1.frozen? ⟨w.heap.size+1,1,none⟩=false:=(hg1.frozen (p:=⟨w.heap.size+1,1,none⟩) (by simp)).trans (by go_simp)
 have g2:w1.frozen? ⟨w.heap.size+1,2,none⟩=false:=(hg1.frozen (p:=⟨w.heap.size+1,2,none⟩) (by simp)).trans (by go_simp)
 have g3:w1.frozen? ⟨w.heap.size+1,3,none⟩=false:=(hg1.frozen (p:=⟨w.heap.size+1,3,none⟩) (by simp)).trans (by go_simp)
 clear hg1 z1
 go_wp2_with fail
 refine (idxr_any A1 22 rowsL w.heap.size nm w1 (by decide) hrr q0 z0).mono ?_;rintro e w2 ⟨k,rfl,hk,hg2⟩
 obtain ⟨hc,hf⟩:=hg2.cells
 have z1:=hg2.size
 have hrr2:=hrr.gr hg2
 have z3:w.heap.size+1<w2.heap.size:=by omega
 replace p0:=(hg2.cell (p:=⟨w.heap.size+1,0,none⟩) z2).trans p0
 replace p1:=(hg2.cell (p:=⟨w.heap.size+1,1,none⟩) z2).trans p1
 replace p2:=(hg2.cell (p:=⟨w.heap.size+1,2,none⟩) z2).trans p2
 replace p3:=(hg2.cell (p:=⟨w.heap.size+1,3,none⟩) z2).trans p3
 replace g0:=(hg2.frozen (p:=⟨w.heap.size+1,0,none⟩) z2).trans g0
 replace g1:=(hg2.frozen (p:=⟨w.heap.size+1,1,none⟩) z2).trans g1
 replace g2:=(hg2.frozen (p:=⟨w.heap.size+1,2,none⟩) z2).trans g2
 replace g3:=(hg2.frozen (p:=⟨w.heap.size+1,3,none⟩) z2).trans g3
 have hgw2:=Gr.trans hgw hg2
 clear hc hf hrr hg2 hgw q0 z0 z1 z2
 rcases hk with ⟨rfl,hn⟩|⟨i,hi,rfl,hy,hb⟩
 ·
  have E:Hid (rowF nm=noFr∧(findF nm).isSome=false):=Lib.hid ⟨by unfold rowF findF;rw[find_none hn];rfl,by unfold findF;rw[find_none hn];rfl⟩
  clear hn hrr2
  go_wp2
  exact bodyPost_ret (v:= .tuple #[.agg #[.string ⟨#[]⟩, .int .i64 0, .int .i64 0, .bool false], .bool false]) (by simp[results,Tryz.results18,go_sem, *]) rfl ⟨by rw[E.out.1,E.out.2];rfl,gq⟩
 ·
  have E:Hid (rowF nm=rowsL[i]∧(findF nm).isSome=true):=Lib.hid ⟨by unfold rowF findF;rw[find_some hi hy hb];rfl,by unfold findF;rw[find_some hi hy hb];rfl⟩
  obtain ⟨ad,rfl,hbk,hx0,hx1,hx2,hx3⟩:=hrr2.at hi
  generalize rowsL[i]=r at hx0 hx1 hx2 hx3 E
  clear hy hb hrr2
  generalize rowsL.length=n at hi ⊢
  go_wp2
  exact bodyPost_ret (v:= .tuple #[.agg #[.string r.nm, .int .i64 r.kind, .int .i64 r.by_, .bool r.least], .bool true]) (by simp[results,Tryz.results18,go_sem, *]) rfl ⟨by rw[E.out.1,E.out.2];rfl,gq⟩
theorem subV_eq {a b:Vl} (h:knB b=true):subV a b=sumV a (ofV (-b.n)):=by
 have b1:=knB_lo h
 have b2:=knB_hi h
 have e:ofV (-b.n)=⟨true, -b.n⟩:=ofV_in (by omega) (by omega)
 have k:knB (ofV (-b.n))=true:=by rw[e,knB_iff];exact ⟨rfl,by simp;omega,by simp;omega⟩
 unfold subV sumV
 rw[k,h,e]
 rfl
theorem sub_any (a b:Vl) (w:World) :
  Calls Tryz.prog 97 #[.agg #[.bool a.ok, .int .i64 a.n], .agg #[.bool b.ok, .int .i64 b.n]] w fun e w'=>e= .returned (.agg #[.bool (subV a b).ok, .int .i64 (subV a b).n])∧Gr w w':=by
 cases hb:knB b
 ·
  have hv:subV a b=⟨false,0⟩:=by simp[subV,hb]
  rw[hv];clear hv
  go_enter Tryz.func97,Tryz.ntmps97
  go_wp2_with fail
  refine (kn_any b _).mono ?_;rintro e w1 ⟨rfl,hg⟩;obtain ⟨hc,hf⟩:=hg.cells;have hz:=hg.size;(try simp at hz);have z0:w.heap.size<w1.heap.size:=(by omega);have z1:w.heap.size+1<w1.heap.size:=(by omega);have z2:w.heap.size+1+1<w1.heap.size:=(by omega)
  go_wp2
  have q0:w1.cell? ⟨w.heap.size+1+1,0,none⟩=some (.bool false):=by go_simp
  have q1:w1.cell? ⟨w.heap.size+1+1,1,none⟩=some (.int .i64 0):=by go_simp
  exact bodyPost_ret (v:= .agg #[.bool false, .int .i64 0]) (by simp[results,Tryz.results97,go_sem, *]) rfl ⟨rfl,gq⟩
 have b1:=knB_lo hb
 have b2:=knB_hi hb
 rw[subV_eq hb]
 go_enter Tryz.func97,Tryz.ntmps97
 go_wp2_with fail
 refine (kn_any b _).mono ?_;rintro e w1 ⟨rfl,hg⟩;obtain ⟨hc,hf⟩:=hg.cells;have hz:=hg.size;(try simp at hz);have z0:w.heap.size<w1.heap.size:=(by omega);have z1:w.heap.size+1<w1.heap.size:=(by omega);have z2:w.heap.size+1+1<w1.heap.size:=(by omega)
 go_wp2
 have s0:w1.cell? ⟨w.heap.size,0,none⟩=some (.bool a.ok):=by go_simp
 have s1:w1.cell? ⟨w.heap.size,1,none⟩=some (.int .i64 a.n):=by go_simp
 have s2:w1.cell? ⟨w.heap.size+1,0,none⟩=some (.bool b.ok):=by go_simp
 have s3:w1.cell? ⟨w.heap.size+1,1,none⟩=some (.int .i64 b.n):=by go_simp
 have s4:w1.cell? ⟨w.heap.size+1+1,0,none⟩=some (.bool false):=by go_simp
 have s5:w1.cell? ⟨w.heap.size+1+1,1,none⟩=some (.int .i64 0):=by go_simp
 have s6:w1.frozen? ⟨w.heap.size+1+1,0,none⟩=false:=by go_simp
 have s7:w1.frozen? ⟨w.heap.size+1+1,1,none⟩=false:=by go_simp
 have hgw:Gr w w1:=gq
 clear hc hf hg
 have hneg:IntKind.i64.wrap (-b.n)= -b.n:=IntWalk.i64_in _ (by omega)
 clear b1 b2
 go_region_held3 (fun W=>W.cell? ⟨w.heap.size,0,none⟩=some (.bool a.ok)∧W.cell? ⟨w.heap.size,1,none⟩=some (.int .i64 a.n)∧W.cell? ⟨w.heap.size+1,1,none⟩=some (.int .i64 b.n)) (first|exact ⟨e0,e1,e2⟩|(refine ⟨?_,?_,?_⟩<;>(go_simp;done))|go_keep)
  (first
   | (go_at_call 123;refine (of_any (-b.n) _).mono ?_;rintro e w2 ⟨rfl,hg2⟩;have e0:=(hg2.cell (p:=⟨w.heap.size,0,none⟩) (by exact z0)).trans s0;have e1:=(hg2.cell (p:=⟨w.heap.size,1,none⟩) (by exact z0)).trans s1;have e2:=(hg2.cell (p:=⟨w.heap.size+1,1,none⟩) (by exact z1)).trans s3;have hz2:=hg2.size;(try simp at hz2);have x0:w.heap.size<w2.heap.size:=(by omega);have x1:w.heap.size+1<w2.heap.size:=(by omega);have x2:w.heap.size+1+1<w2.heap.size:=(by omega))
   | (go_at_call 122;refine (sum_any a (ofV (-b.n)) _).mono ?_;rintro e w3 ⟨rfl,hg3⟩;have e0:=(hg3.cell (p:=⟨w.heap.size,0,none⟩) (by exact x0)).trans e0;have e1:=(hg3.cell (p:=⟨w.heap.size,1,none⟩) (by exact x0)).trans e1;have e2:=(hg3.cell (p:=⟨w.heap.size+1,1,none⟩) (by exact x1)).trans e2;have f0:=((hg3.cell (p:=⟨w.heap.size+1+1,0,none⟩) (by exact x2)).trans (hg2.cell (p:=⟨w.heap.size+1+1,0,none⟩) (by exact z2))).trans s4;have f1:=((hg3.cell (p:=⟨w.heap.size+1+1,1,none⟩) (by exact x2)).trans (hg2.cell (p:=⟨w.heap.size+1+1,1,none⟩) (by exact z2))).trans s5;have f2:=((hg3.frozen (p:=⟨w.heap.size+1+1,0,none⟩) (by exact x2)).trans (hg2.frozen (p:=⟨w.heap.size+1+1,0,none⟩) (by exact z2))).trans s6;have f3:=((hg3.frozen (p:=⟨w.heap.size+1+1,1,none⟩) (by exact x2)).trans (hg2.frozen (p:=⟨w.heap.size+1+1,1,none⟩) (by exact z2))).trans s7))
 go_wp2
 exact bodyPost_ret (v:= .agg #[.bool (sumV a (ofV (-b.n))).ok, .int .i64 (sumV a (ofV (-b.n))).n]) (by simp[results,Tryz.results97,go_sem, *]) rfl ⟨rfl,gq⟩
theorem rsub_any (a b:Vl) (w:World) :
  Calls Tryz.prog 73 #[.agg #[.bool a.ok, .int .i64 a.n], .agg #[.bool b.ok, .int .i64 b.n]] w fun e w'=>e= .returned (.agg #[.bool (subV a b).ok, .int .i64 (subV a b).n])∧Gr w w':=by
 cases hb:(knB a&&knB b)
 ·
  have hv:subV a b=⟨false,0⟩:=by simp[subV,hb]
  rw[hv];clear hv
  go_enter Tryz.func73,Tryz.ntmps73
  go_wp2_with fail
  refine (two_any a b _).mono ?_;rintro e w1 ⟨rfl,hg⟩;obtain ⟨hc,hf⟩:=hg.cells;have hz:=hg.size;(try simp at hz);have z0:w.heap.size<w1.heap.size:=(by omega);have z1:w.heap.size+1<w1.heap.size:=(by omega);have z2:w.heap.size+1+1<w1.heap.size:=(by omega)
  go_wp2
  have q0:w1.cell? ⟨w.heap.size+1+1,0,none⟩=some (.bool false):=by go_simp
  have q1:w1.cell? ⟨w.heap.size+1+1,1,none⟩=some (.int .i64 0):=by go_simp
  exact bodyPost_ret (v:= .agg #[.bool false, .int .i64 0]) (by simp[results,Tryz.results73,go_sem, *]) rfl ⟨rfl,gq⟩
 have hb':knB b=true:=by simp at hb;exact hb.2
 have ha':knB a=true:=by simp at hb;exact hb.1
 have b1:=knB_lo hb'
 have b2:=knB_hi hb'
 rw[subV_eq hb']
 go_enter Tryz.func73,Tryz.ntmps73
 go_wp2_with fail
 refine (two_any a b _).mono ?_;rintro e w1 ⟨rfl,hg⟩;obtain ⟨hc,hf⟩:=hg.cells;have hz:=hg.size;(try simp at hz);have z0:w.heap.size<w1.heap.size:=(by omega);have z1:w.heap.size+1<w1.heap.size:=(by omega);have z2:w.heap.size+1+1<w1.heap.size:=(by omega)
 go_wp2
 have s0:w1.cell? ⟨w.heap.size,0,none⟩=some (.bool a.ok):=by go_simp
 have s1:w1.cell? ⟨w.heap.size,1,none⟩=some (.int .i64 a.n):=by go_simp
 have s2:w1.cell? ⟨w.heap.size+1,0,none⟩=some (.bool b.ok):=by go_simp
 have s3:w1.cell? ⟨w.heap.size+1,1,none⟩=some (.int .i64 b.n):=by go_simp
 have s4:w1.cell? ⟨w.heap.size+1+1,0,none⟩=some (.bool false):=by go_simp
 have s5:w1.cell? ⟨w.heap.size+1+1,1,none⟩=some (.int .i64 0):=by go_simp
 have s6:w1.frozen? ⟨w.heap.size+1+1,0,none⟩=false:=by go_simp
 have s7:w1.frozen? ⟨w.heap.size+1+1,1,none⟩=false:=by go_simp
 have hgw:Gr w w1:=gq
 clear hc hf hg
 have hneg:IntKind.i64.wrap (-b.n)= -b.n:=IntWalk.i64_in _ (by omega)
 clear b1 b2
 go_region_held3 (fun W=>W.cell? ⟨w.heap.size,0,none⟩=some (.bool a.ok)∧W.cell? ⟨w.heap.size,1,none⟩=some (.int .i64 a.n)∧W.cell? ⟨w.heap.size+1,1,none⟩=some (.int .i64 b.n)) (first|exact ⟨e0,e1,e2⟩|(refine ⟨?_,?_,?_⟩<;>(go_simp;done))|go_keep)
  (first
   | (go_at_call 39;refine (rof_any (-b.n) _).mono ?_;rintro e w2 ⟨rfl,hg2⟩;have e0:=(hg2.cell (p:=⟨w.heap.size,0,none⟩) (by exact z0)).trans s0;have e1:=(hg2.cell (p:=⟨w.heap.size,1,none⟩) (by exact z0)).trans s1;have e2:=(hg2.cell (p:=⟨w.heap.size+1,1,none⟩) (by exact z1)).trans s3;have hz2:=hg2.size;(try simp at hz2);have x0:w.heap.size<w2.heap.size:=(by omega);have x1:w.heap.size+1<w2.heap.size:=(by omega);have x2:w.heap.size+1+1<w2.heap.size:=(by omega))
   | (go_at_call 103;refine (plus_any a (ofV (-b.n)) _).mono ?_;rintro e w3 ⟨rfl,hg3⟩;have e0:=(hg3.cell (p:=⟨w.heap.size,0,none⟩) (by exact x0)).trans e0;have e1:=(hg3.cell (p:=⟨w.heap.size,1,none⟩) (by exact x0)).trans e1;have e2:=(hg3.cell (p:=⟨w.heap.size+1,1,none⟩) (by exact x1)).trans e2;have f0:=((hg3.cell (p:=⟨w.heap.size+1+1,0,none⟩) (by exact x2)).trans (hg2.cell (p:=⟨w.heap.size+1+1,0,none⟩) (by exact z2))).trans s4;have f1:=((hg3.cell (p:=⟨w.heap.size+1+1,1,none⟩) (by exact x2)).trans (hg2.cell (p:=⟨w.heap.size+1+1,1,none⟩) (by exact z2))).trans s5;have f2:=((hg3.frozen (p:=⟨w.heap.size+1+1,0,none⟩) (by exact x2)).trans (hg2.frozen (p:=⟨w.heap.size+1+1,0,none⟩) (by exact z2))).trans s6;have f3:=((hg3.frozen (p:=⟨w.heap.size+1+1,1,none⟩) (by exact x2)).trans (hg2.frozen (p:=⟨w.heap.size+1+1,1,none⟩) (by exact z2))).trans s7))
 go_wp2
 exact bodyPost_ret (v:= .agg #[.bool (sumV a (ofV (-b.n))).ok, .int .i64 (sumV a (ofV (-b.n))).n]) (by simp[results,Tryz.results73,go_sem, *]) rfl ⟨rfl,gq⟩
theorem sqrt_any (a:Vl) (w:World) :
  Calls Tryz.prog 99 #[.agg #[.bool a.ok, .int .i64 a.n]] w fun e w'=>e= .returned (.agg #[.bool (sqrtV a).ok, .int .i64 (sqrtV a).n])∧Gr w w':=by
 cases ha:knB a
 ·
  have hv:sqrtV a=⟨false,0⟩:=by simp[sqrtV,ha]
  rw[hv];clear hv
  go_enter Tryz.func99,Tryz.ntmps99
  go_wp2_with fail
  refine (kn_any a _).mono ?_;rintro e w1 ⟨rfl,hg⟩;obtain ⟨hc,hf⟩:=hg.cells;have hz:=hg.size;(try simp at hz);have z0:w.heap.size<w1.heap.size:=(by omega);have z1:w.heap.size+1<w1.heap.size:=(by omega)
  go_wp2
  have q0:w1.cell? ⟨w.heap.size+1,0,none⟩=some (.bool false):=by go_simp
  have q1:w1.cell? ⟨w.heap.size+1,1,none⟩=some (.int .i64 0):=by go_simp
  exact bodyPost_ret (v:= .agg #[.bool false, .int .i64 0]) (by simp[results,Tryz.results99,go_sem, *]) rfl ⟨rfl,gq⟩
 by_cases h0:a.n<0
 ·
  have hv:sqrtV a=⟨false,0⟩:=by
   have:¬0≤a.n:=by omega
   simp[sqrtV,ha,this]
  rw[hv];clear hv
  go_enter Tryz.func99,Tryz.ntmps99
  go_wp2_with fail
  refine (kn_any a _).mono ?_;rintro e w1 ⟨rfl,hg⟩;obtain ⟨hc,hf⟩:=hg.cells;have hz:=hg.size;(try simp at hz);have z0:w.heap.size<w1.heap.size:=(by omega);have z1:w.heap.size+1<w1.heap.size:=(by omega)
  go_wp2
  have q0:w1.cell? ⟨w.heap.size+1,0,none⟩=some (.bool false):=by go_simp
  have q1:w1.cell? ⟨w.heap.size+1,1,none⟩=some (.int .i64 0):=by go_simp
  exact bodyPost_ret (v:= .agg #[.bool false, .int .i64 0]) (by simp[results,Tryz.results99,go_sem, *]) rfl ⟨rfl,gq⟩
 have h0':0≤a.n:=by omega
 have a2:=knB_hi ha
 obtain ⟨ok,m⟩:=a
 simp only at h0' a2 h0
 obtain ⟨N0,rfl⟩:∃N0:Nat,m=(N0:Int):=⟨m.toNat,by omega⟩
 have hv:sqrtV ⟨ok,(N0:Int)⟩=ofV (rtN (N0*1000000)):=by
  unfold sqrtV
  rw[ha,Int.toNat_natCast,decide_eq_true (Int.natCast_nonneg N0),Bool.and_self,cond_true]
 rw[hv];clear hv
 obtain ⟨N,hN⟩:∃N,N=N0*1000000:=⟨_,rfl⟩
 have hN84:N<2^84:=by
  have:(2:Nat)^84=19342813113834066795298816:=by decide
  omega
 have M0':=mul64_any N0 1000000 (by omega) (by omega)
 rw[←hN] at M0' ⊢
 obtain ⟨H,hH⟩:∃H,N/18446744073709551616=H:=⟨_,rfl⟩
 obtain ⟨L,hL⟩:∃L,N%18446744073709551616=L:=⟨_,rfl⟩
 rw[hH,hL] at M0'
 have M:=Lib.hid M0'
 have i1:(H:Int)≤18446744073709551615:=by omega
 have i2:(L:Int)≤18446744073709551615:=by omega
 have i3:(N0:Int)≤4611686018427387904:=by omega
 have HN:=Lib.hid hN84
 have HH:=Lib.hid (And.intro hH hL)
 clear M0' hN hN84 a2 h0 h0' hH hL
 go_enter Tryz.func99,Tryz.ntmps99
 go_wp2_with fail
 refine (kn_any ⟨ok,(N0:Int)⟩ _).mono ?_;rintro e w1 ⟨rfl,hg⟩;obtain ⟨hc,hf⟩:=hg.cells;have hz:=hg.size;(try simp at hz);have z0:w.heap.size<w1.heap.size:=(by omega);have z1:w.heap.size+1<w1.heap.size:=(by omega)
 go_wp2_with fail
 refine (M.out _).mono ?_;rintro e w1' ⟨rfl,rfl⟩
 clear M
 go_wp2
 have q0:w1.cell? ⟨w.heap.size+1,0,none⟩=some (.bool false):=by go_simp
 have q1:w1.cell? ⟨w.heap.size+1,1,none⟩=some (.int .i64 0):=by go_simp
 have f0:w1.frozen? ⟨w.heap.size+1,0,none⟩=false:=by go_simp
 have f1:w1.frozen? ⟨w.heap.size+1,1,none⟩=false:=by go_simp
 have hgw:Gr w w1:=gq
 clear hc hf hg
 go_loop [5,6] (fun tn tb=>∃k n b:Nat,tn= .int .u64 n∧tb= .int .u64 b∧Hid (b=2^k/2)∧k≤43∧Hid (Rt N k n)) (fun _ tb=>(intOf tb).toNat)
 case atStart=>exact ⟨43,0,4398046511104,rfl,rfl,(show 4398046511104=2^43/2 by decide),Nat.le_refl _,Rt.start43 HN.out⟩
 case round=>
  obtain ⟨k,n,b,rfl,rfl,hb,hk,hrt⟩:=hrel
  rcases Nat.eq_zero_or_pos k with h0|h0
  ·
   subst h0
   obtain rfl:b=0:=hb.out
   have hn:=hrt.out.hlt
   have he:=hrt.out.end_
   have i4:(n:Int)≤4398046511104:=by omega
   have O:=Lib.hid (of_any (n:Int))
   have HE:=Lib.hid he
   clear hrt hn he
   go_wp2_with fail
   refine (O.out _).mono ?_;rintro e w2 ⟨rfl,hg2⟩
   have x0:w2.cell? ⟨w.heap.size+1,0,none⟩=some (.bool false):=(hg2.cell (p:=⟨w.heap.size+1,0,none⟩) z1).trans q0
   have x1:w2.cell? ⟨w.heap.size+1,1,none⟩=some (.int .i64 0):=(hg2.cell (p:=⟨w.heap.size+1,1,none⟩) z1).trans q1
   have y0:w2.frozen? ⟨w.heap.size+1,0,none⟩=false:=(hg2.frozen (p:=⟨w.heap.size+1,0,none⟩) z1).trans f0
   have y1:w2.frozen? ⟨w.heap.size+1,1,none⟩=false:=(hg2.frozen (p:=⟨w.heap.size+1,1,none⟩) z1).trans f1
   go_wp2
   exact bodyPost_ret (v:= .agg #[.bool (ofV (n:Int)).ok, .int .i64 (ofV (n:Int)).n]) (by simp[results,Tryz.results99,go_sem, *]) rfl ⟨by rw[←HE.out],(by repeat (first|exact hgw|refine Gr.setCell ?_ (by simp) _|refine Gr.trans ?_ (by assumption)))⟩
  ·
   obtain ⟨j,rfl⟩:∃j,k=j+1:=⟨k-1,by omega⟩
   have hbj:b=2^j:=by rw[hb.out,Nat.pow_succ];omega
   have hb1:(1:Int)≤(b:Int):=by have:0<2^j:=Nat.pow_pos (by omega);omega
   obtain ⟨b',hb'⟩:∃b',b'=2^j/2:=⟨_,rfl⟩
   have e0:(b:Int)/2=(b':Int):=by omega
   have hbl:b≤4398046511104:=by
    rw[hbj];exact Nat.le_trans (Nat.pow_le_pow_right (by omega) (show j≤42 by omega)) (by decide)
   have eO:bits .or .u64 (n:Int) (b:Int)=((n+b:Nat):Int):=by
    have:=or_pow (k:=j) hrt.out.hd (by have:=hrt.out.hlt;rw[←hbj];omega)
    rw[←hbj] at this;exact this
   obtain ⟨x,hx⟩:∃x,x=n+b:=⟨_,rfl⟩
   rw[←hx] at eO
   have hxl:x≤8796093022208:=by have:=hrt.out.hlt;omega
   have M2':=mul64_any x x (by omega) (by omega)
   have hD:=dbl_le (X:=x*x) HH.out.1 HH.out.2
   have hXX:x*x≤8796093022208*8796093022208:=Nat.mul_le_mul hxl hxl
   obtain ⟨h2,hh2⟩:∃h2,x*x/18446744073709551616=h2:=⟨_,rfl⟩
   obtain ⟨l2,hl2⟩:∃l2,x*x%18446744073709551616=l2:=⟨_,rfl⟩
   rw[hh2,hl2] at M2' hD
   have M2:=Lib.hid M2'
   have i5:(h2:Int)≤18446744073709551615:=by omega
   have i6:(l2:Int)≤18446744073709551615:=by omega
   have HD:=Lib.hid hD
   have HX:=Lib.hid (show x=n+2^j by omega)
   clear M2' hD hXX hh2 hl2 hxl hbl hx
   have Hb':=Lib.hid hb'
   clear hb hbj hb' h0
   by_cases c1:(h2:Int)<(H:Int)
   ·
    have hy:(n+2^j)*(n+2^j)≤N:=by rw[←HX.out];exact HD.out.2 (Or.inl (by omega))
    have RT:=Lib.hid (hrt.out.yes (by
     have h1:2^j*2^j≤(n+2^j)*(n+2^j):=Nat.mul_le_mul (by omega) (by omega)
     rcases Nat.lt_or_ge j 42 with hj|hj
     ·
      exact hj
     ·
      have h3:2^84≤2^j*2^j:=by rw[←Nat.pow_add];exact Nat.pow_le_pow_right (by omega) (by omega)
      have:=HN.out;omega) hy)
    rw[←HX.out] at RT
    clear hy
    go_wp2_with fail
    refine (M2.out _).mono ?_;rintro e w1' ⟨rfl,rfl⟩
    go_wp2
    go_round
    case rel=>exact ⟨j,x,b',rfl,rfl,Hb'.out,by omega,RT.out⟩
    case measure=>simp[intOf];omega
   by_cases c2:h2=H
   ·
    by_cases c3:(l2:Int)≤(L:Int)
    ·
     have hy:(n+2^j)*(n+2^j)≤N:=by rw[←HX.out];exact HD.out.2 (Or.inr ⟨c2,by omega⟩)
     have RT:=Lib.hid (hrt.out.yes (by
      have h1:2^j*2^j≤(n+2^j)*(n+2^j):=Nat.mul_le_mul (by omega) (by omega)
      rcases Nat.lt_or_ge j 42 with hj|hj
      ·
       exact hj
      ·
       have h3:2^84≤2^j*2^j:=by rw[←Nat.pow_add];exact Nat.pow_le_pow_right (by omega) (by omega)
       have:=HN.out;omega) hy)
     rw[←HX.out] at RT
     clear hy
     have c2':((h2:Int)==(H:Int))=true:=by simp[c2]
     have c2n:(h2==H)=true:=by simp[c2]
     clear c2
     go_wp2_with fail
     refine (M2.out _).mono ?_;rintro e w1' ⟨rfl,rfl⟩
     go_wp2
     go_round
     case rel=>exact ⟨j,x,b',rfl,rfl,Hb'.out,by omega,RT.out⟩
     case measure=>simp[intOf];omega
    ·
     have hy:¬(n+2^j)*(n+2^j)≤N:=by rw[←HX.out];intro h;have:=HD.out.1 h;omega
     have RT:=Lib.hid (hrt.out.no hy)
     clear hy
     have c2':((h2:Int)==(H:Int))=true:=by simp[c2]
     have c2n:(h2==H)=true:=by simp[c2]
     clear c2
     go_wp2_with fail
     refine (M2.out _).mono ?_;rintro e w1' ⟨rfl,rfl⟩
     go_wp2
     go_round
     case rel=>exact ⟨j,n,b',rfl,rfl,Hb'.out,by omega,RT.out⟩
     case measure=>simp[intOf];omega
   ·
    have hy:¬(n+2^j)*(n+2^j)≤N:=by rw[←HX.out];intro h;have:=HD.out.1 h;omega
    have RT:=Lib.hid (hrt.out.no hy)
    clear hy
    have c2':((h2:Int)==(H:Int))=false:=by simp;omega
    have c2n:(h2==H)=false:=by simp[c2]
    clear c2
    go_wp2_with fail
    refine (M2.out _).mono ?_;rintro e w1' ⟨rfl,rfl⟩
    go_wp2
    go_round
    case rel=>exact ⟨j,n,b',rfl,rfl,Hb'.out,by omega,RT.out⟩
    case measure=>simp[intOf];omega
theorem sqL_len (l:List Vl):(sqL l).length=(kn l).length:=List.length_map _
theorem map_at {f:Vl→Vl} {K S:List Vl} (h:S=K.map f) {k:Nat} (hk:k<K.length) (hs:k<S.length):S[k]=f K[k]:=by
 subst h;exact List.getElem_map f
theorem bif_no {b:Bool} {x y:Vl} (h:b=false):(bif b then x else y)=y:=by rw[h];rfl
theorem bif_yes {b:Bool} {x y:Vl} (h:b=true):(bif b then x else y)=x:=by rw[h];rfl
theorem all_not {l:List Vl} {k:Nat} (h:k<l.length) (hn:(l[k]).ok=false):l.all (·.ok)=false:=by
 cases hq:l.all (·.ok)
 ·
  rfl
 ·
  rw[List.all_eq_true.1 hq _ (List.getElem_mem h)] at hn;cases hn
theorem dev_no {l:List Vl} {k:Nat} (h:k<(sqL l).length) (hn:((sqL l)[k]).ok=false):devV l=⟨false,0⟩:=bif_no (all_not h hn)
theorem dev_yes {l:List Vl} (h:(sqL l).all (·.ok)=true):devV l=sqrtV (aggV 1 (sqL l)):=bif_yes h
theorem allok_take {l:List Vl} {k:Nat} (h:k<l.length):(l.take (k+1)).all (·.ok)=((l.take k).all (·.ok)&&l[k].ok):=by
 rw[List.take_succ_eq_append_getElem h,List.all_append];simp
theorem dev_any (A:Option Addr) (c:Nat) (l:List Vl) (w:World) (hl:l.length≤1000000) (hr:Rv w A l) :
  Calls Tryz.prog 69 #[.slice A l.length c] w fun e w'=>e= .returned (.agg #[.bool (devV l).ok, .int .i64 (devV l).n])∧Gr w w':=by
 obtain ⟨i0,hi,hz0,hz1,hz2⟩:=info_parts info_val
 have hkl:=kn_len l
 go_enter Tryz.func69,Tryz.ntmps69
 go_wp2_with fail
 refine (known_vals_any A c l _ hl ?hr).mono ?_
 case hr=>exact hr.gr gq
 rintro e w1 ⟨A1,c1,rfl,hr1,hg1⟩
 have z1:=hg1.size
 simp at z1
 have z0:w.heap.size<w1.heap.size:=by omega
 have p0:w1.cell? ⟨w.heap.size,0,none⟩=some (.bool false):=(hg1.cell (p:=⟨w.heap.size,0,none⟩) (by simp)).trans (by go_simp)
 have p1:w1.cell? ⟨w.heap.size,1,none⟩=some (.int .i64 0):=(hg1.cell (p:=⟨w.heap.size,1,none⟩) (by simp)).trans (by go_simp)
 have f0:w1.frozen? ⟨w.heap.size,0,none⟩=false:=(hg1.frozen (p:=⟨w.heap.size,0,none⟩) (by simp)).trans (by go_simp)
 have f1:w1.frozen? ⟨w.heap.size,1,none⟩=false:=(hg1.frozen (p:=⟨w.heap.size,1,none⟩) (by simp)).trans (by go_simp)
 have hgw1:Gr w w1:=gq
 clear hg1 z1
 go_wp2_with fail
 refine (agg_of_any 1 A1 c1 (kn l) _ (by omega) hr1).mono ?_
 rintro e w2 ⟨rfl,hg2⟩
 obtain ⟨M,hM⟩:∃M,aggV 1 (kn l)=M:=⟨_,rfl⟩
 have HSQ:Hid (sqL l=(kn l).map (sqF M)):=Lib.hid (by rw[←hM];rfl)
 rw[hM]
 clear hM
 replace p0:=(hg2.cell (p:=⟨w.heap.size,0,none⟩) z0).trans p0
 replace p1:=(hg2.cell (p:=⟨w.heap.size,1,none⟩) z0).trans p1
 replace f0:=(hg2.frozen (p:=⟨w.heap.size,0,none⟩) z0).trans f0
 replace f1:=(hg2.frozen (p:=⟨w.heap.size,1,none⟩) z0).trans f1
 have z2:w.heap.size<w2.heap.size:=Nat.lt_of_lt_of_le z0 hg2.size
 have hr2:=hr1.gr hg2
 have hgw2:=Gr.trans hgw1 hg2
 obtain ⟨K,hK⟩:∃K,kn l=K:=⟨_,rfl⟩
 obtain ⟨SQ,hSQ⟩:∃SQ,sqL l=SQ:=⟨_,rfl⟩
 have hlen:SQ.length=K.length:=by rw[←hK,←hSQ];exact sqL_len l
 have hK6:K.length≤1000000:=by rw[←hK];omega
 have HQ:Hid (∀k (h:k<K.length) (h':k<SQ.length),SQ[k]=mulV (subV K[k] M) (subV K[k] M)):=Lib.hid (fun k h h'=>by subst hK hSQ;exact map_at HSQ.out h h')
 have HN:Hid (∀k (h:k<SQ.length),(SQ[k]).ok=false→devV l=⟨false,0⟩):=Lib.hid (fun k h h'=>by subst hSQ;exact dev_no h h')
 have HY:Hid (SQ.all (·.ok)=true→devV l=sqrtV (aggV 1 SQ)):=Lib.hid (fun h=>by subst hSQ;exact dev_yes h)
 rw[hK] at hr2 ⊢
 have HL:=Lib.hid hlen
 clear hr1 hr HSQ hg2 hgw1 hkl hlen hK hSQ z0 hl
 go_wp2
 have m0:(w2.alloc (.cells #[.bool M.ok, .int .i64 M.n] 25)).cell? ⟨w2.heap.size,0,none⟩=some (.bool M.ok):=by go_simp
 have m1:(w2.alloc (.cells #[.bool M.ok, .int .i64 M.n] 25)).cell? ⟨w2.heap.size,1,none⟩=some (.int .i64 M.n):=by go_simp
 have zm:w2.heap.size<(w2.alloc (.cells #[.bool M.ok, .int .i64 M.n] 25)).heap.size:=by simp
 have gm:Gr w2 (w2.alloc (.cells #[.bool M.ok, .int .i64 M.n] 25)):=gq
 replace p0:=(gm.cell (p:=⟨w.heap.size,0,none⟩) z2).trans p0
 replace p1:=(gm.cell (p:=⟨w.heap.size,1,none⟩) z2).trans p1
 replace f0:=(gm.frozen (p:=⟨w.heap.size,0,none⟩) z2).trans f0
 replace f1:=(gm.frozen (p:=⟨w.heap.size,1,none⟩) z2).trans f1
 have hr3:=hr2.gr gm
 have hgw3:=Gr.trans hgw2 gm
 have z3:=Nat.lt_of_lt_of_le z2 gm.size
 clear hr2 hgw2 gm z2
 generalize (w2.alloc (.cells #[.bool M.ok, .int .i64 M.n] 25))=W0 at m0 m1 zm p0 p1 f0 f1 hr3 hgw3 z3 ⊢
 generalize w2.heap.size=Bm at m0 m1 zm ⊢
 have HP:=Lib.hid (And.intro (And.intro p0 p1) (And.intro f0 f1))
 have HM:=Lib.hid (And.intro m0 m1)
 clear p0 p1 f0 f1 m0 m1
 go_loopw [5,16] (fun v i wr=>∃k:Nat,k≤K.length∧i= .int .i64 k∧Gr W0 wr∧wr.ownsRow W0.heap.size 25 2 v k (vcells (SQ.take k))∧Hid ((SQ.take k).all (·.ok)=true)) (fun _ i _=>K.length-(intOf i).toNat)
 case atStart=>exact ⟨0,Nat.zero_le _,rfl,Gr.refl _,World.ownsRow_nil _ _ _ _,Lib.hid rfl⟩
 case round=>
  obtain ⟨k,hk,rfl,hgr,hown,hall⟩:=hrel
  have m0:=(hgr.cell (p:=⟨Bm,0,none⟩) zm).trans HM.out.1
  have m1:=(hgr.cell (p:=⟨Bm,1,none⟩) zm).trans HM.out.2
  have zr:=hgr.size
  have zB:Bm<wr.heap.size:=by omega
  by_cases hlt:k<K.length
  ·
   have hlt':k<SQ.length:=by rw[HL.out];exact hlt
   obtain ⟨ad,rfl,hb,hx0,hx1⟩:=(hr3.gr hgr).at hlt
   have Hq:=Lib.hid (HQ.out k hlt hlt')
   have Hn:=Lib.hid (HN.out k hlt')
   have Ht:=Lib.hid (allok_take hlt')
   have Hs:=Lib.hid (List.take_succ_eq_append_getElem hlt')
   generalize K[k]=v at hx0 hx1 Hq
   go_wp2_with fail
   refine (sub_any v M _).mono ?_;rintro e w3 ⟨rfl,hg3⟩
   have g3:Gr wr w3:=gq
   have hown3:=own_gr hown g3
   clear hg3 m0 m1 hx0 hx1
   generalize subV v M=d at Hq ⊢
   go_wp2_with fail
   refine (mul_any d d _).mono ?_;rintro e w4 ⟨rfl,hg4⟩
   have g4:Gr w3 w4:=gq
   have g5:=Gr.trans (Gr.trans hgr g3) g4
   have hown4:=own_gr hown3 g4
   clear hg4 g3 g4 hown hown3 hgr
   generalize SQ[k]=q0 at Hq Hn Ht Hs
   obtain ⟨q,hq⟩:∃q,mulV d d=q:=⟨_,rfl⟩
   have Hqq:Hid (q0=q):=Lib.hid (Hq.out.trans hq)
   rw[hq]
   clear hq Hq
   obtain ⟨qo,qn⟩:=q
   obtain rfl:=Hqq.out
   clear Hqq
   cases qo
   case false=>
    have HV:=Lib.hid (Hn.out rfl)
    have p0:=(g5.cell (p:=⟨w.heap.size,0,none⟩) z3).trans HP.out.1.1
    have p1:=(g5.cell (p:=⟨w.heap.size,1,none⟩) z3).trans HP.out.1.2
    have f0:=(g5.frozen (p:=⟨w.heap.size,0,none⟩) z3).trans HP.out.2.1
    have f1:=(g5.frozen (p:=⟨w.heap.size,1,none⟩) z3).trans HP.out.2.2
    have z4:=Nat.lt_of_lt_of_le z3 g5.size
    have gw:=Gr.trans hgw3 g5
    clear hown4 g5
    go_wp2
    exact bodyPost_ret (v:= .agg #[.bool false, .int .i64 0]) (by simp[results,Tryz.results69,go_sem, *]) rfl ⟨by rw[HV.out],gq⟩
   case true=>
    have z5:=g5.size
    have hrx:Rv ((w4.alloc (.cells (vcells [⟨true,qn⟩]).toArray 25)).alloc (.cells (vcells [⟨true,qn⟩]).toArray 25)) (some ⟨w4.heap.size+1,0,none⟩) [⟨true,qn⟩]:=Rv.new (by simp) 25 [⟨true,qn⟩]
    have hv0:=(hown4.alloc (.cells (vcells [⟨true,qn⟩]).toArray 25)).alloc (.cells (vcells [⟨true,qn⟩]).toArray 25)
    have hvl:=(hown4.alloc (.cells (vcells [⟨true,qn⟩]).toArray 25)).lt
    have g6:Gr W0 (w4.alloc (.cells (vcells [⟨true,qn⟩]).toArray 25)):=gq
    go_wp2_with (at_builtin;go_loud (refine wpList_append_rd rfl (.tmp 30) (.tmp 32) 32 rfl W0.heap.size 25 i0 _ 2 16 Tryz.underlying32 hi hz0 hz1 hz2 rfl (by decide) _ _ _ rfl hv0 (some ⟨w4.heap.size+1,0,none⟩) 1 _ (vcells [⟨true,qn⟩]) rfl hrx (vcells_one _) (by unfold maxLen;omega) (by omega) (by simp;omega) ?_;intro v' w6 hown6 hgr6 hat6))
    have hg6:Gr W0 w6:=Gr.grown (Gr.alloc g6 _) hgr6 (fun k hk=>(hvl k hk).1)
    clear hv0 hvl hgr6 hat6 hrx g6
    go_wp2
    go_roundw
    case rel=>exact ⟨k+1,by omega,by go_num,hg6,by rw[Hs.out,vcells_append];exact hown6,Lib.hid (by rw[Ht.out,hall.out];rfl)⟩
    case measure=>simp[intOf];omega
  ·
   have hkk:k=K.length:=by omega
   subst hkk
   have hT:SQ.take K.length=SQ:=by rw[←HL.out,List.take_length]
   rw[hT] at hown hall
   obtain ⟨A',c',hv⟩:=own_form hown
   subst hv
   have hrs:Rv wr A' SQ:=by have h:=Rd.own hown;unfold Rv;rw[HL.out];exact h
   have HV:=Lib.hid (HY.out hall.out)
   have QA:=agg_of_any 1 A' c' SQ
   rw[HL.out] at QA
   have QA:=Lib.hid (QA wr hK6 hrs)
   clear hT hown m0 m1 hrs
   go_wp2_with fail
   refine QA.out.mono ?_;rintro e w5 ⟨rfl,hg5⟩
   generalize aggV 1 SQ=V at HV ⊢
   go_wp2_with fail
   refine (sqrt_any V _).mono ?_;rintro e w6 ⟨rfl,hg6⟩
   generalize sqrtV V=x at HV ⊢
   have g5:=Gr.trans (Gr.trans hgr hg5) hg6
   have p0:=(g5.cell (p:=⟨w.heap.size,0,none⟩) z3).trans HP.out.1.1
   have p1:=(g5.cell (p:=⟨w.heap.size,1,none⟩) z3).trans HP.out.1.2
   have f0:=(g5.frozen (p:=⟨w.heap.size,0,none⟩) z3).trans HP.out.2.1
   have f1:=(g5.frozen (p:=⟨w.heap.size,1,none⟩) z3).trans HP.out.2.2
   have z4:=Nat.lt_of_lt_of_le z3 g5.size
   have gw:=Gr.trans hgw3 g5
   clear hg5 hg6 g5 hgr QA
   go_wp2
   exact bodyPost_ret (v:= .agg #[.bool x.ok, .int .i64 x.n]) (by simp[results,Tryz.results69,go_sem, *]) rfl ⟨by rw[HV.out],gq⟩
end Go.Proofs.YtnphdacibageiaaGreat
