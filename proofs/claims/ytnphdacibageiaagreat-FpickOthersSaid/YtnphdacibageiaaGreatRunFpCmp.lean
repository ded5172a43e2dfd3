import Derived.Test.YtnphdacibageiaaGreatRunSrFitB
import Derived.Test.YtnphdacibageiaaGreatFpShelf
import Derived.Test.YtnphdacibageiaaGreatRunFpPlain
import Derived.Shelf.SlSortCmp.InsertionK
set_option linter.all false
set_option maxRecDepth 1000000
set_option maxHeartbeats 12800000
namespace Go.Proofs.YtnphdacibageiaaGreat
section
open Go.RowKit Go.Sort Go.Shelf
theorem bytes_lt:∀(l m:List UInt8),decide (Lib.compareBytes l m<0)=Op.bytesLess l m
 | [],[]=>rfl
 | [],_::_=>rfl
 | _::_,[]=>rfl
 | a::x,b::y=>by
  unfold Lib.compareBytes Op.bytesLess
  by_cases h:a<b
  ·
   simp[h]
  ·
   by_cases h':b<a
   ·
    have hne:a≠b:=fun e=>by subst e;exact h h'
    simp[h,h',hne]
   ·
    have he:a=b:=UInt8.le_antisymm (UInt8.not_lt.1 h') (UInt8.not_lt.1 h)
    subst he
    simp[bytes_lt x y]
theorem cmpI_eq (a b:Int):cmpI a b=Lib.compareInt a b:=rfl
instance:Inhabited Sq:=⟨⟨⟨⟨#[]⟩,0,0,[],0⟩,none,0⟩⟩
instance:Inhabited Vl:=⟨⟨false,0⟩⟩
def sqC (x:Sq):List Value:=[.string x.s.name, .int .i64 x.s.start, .int .i64 x.s.step, .slice x.A x.s.vals.length x.c, .int .i64 x.s.cons]
abbrev En:=Sq×Vl
def enC (x:En):List Value:=[.string x.1.s.name, .int .i64 x.1.s.start, .int .i64 x.1.s.step, .slice x.1.A x.1.s.vals.length x.1.c, .int .i64 x.1.s.cons, .bool x.2.ok, .int .i64 x.2.n]
def cfN (x y:Sq):Int:=Lib.compareBytes x.s.name.data.toList y.s.name.data.toList
def cfE (least:Bool) (x y:En):Int:=cmpV least x.2 y.2
theorem cfN_lt (x y:Sq):ltOf cfN x y=ltN x.s.name y.s.name:=by
 unfold ltOf cfN ltN
 rw[bytes_lt,ByteArray.toList_eq,ByteArray.toList_eq]
theorem cfE_lt (least:Bool) (x y:En):ltOf (cfE least) x y=ltV least x.2 y.2:=cmpV_lt least x.2 y.2
theorem cmpn_any (x y:Sq) (W:World):Calls Tryz.prog 53 #[.agg (sqC x).toArray, .agg (sqC y).toArray] W fun e w'=>e= .returned (.int .i64 (cfN x y))∧∃q os',w'=grow (W.drewN q) os':=by
 unfold sqC
 have hcon:=fun W'=>Tryz.strings_Compare x.s.name y.s.name W'
 change ∀W',Calls Tryz.prog 54 _ _ _ at hcon
 unfold cfN
 generalize Lib.compareBytes x.s.name.data.toList y.s.name.data.toList=r at hcon ⊢
 go_enter Tryz.func53,Tryz.ntmps53
 go_wp2_with (go_at_call 54;refine (hcon _).mono ?_;rintro e w' ⟨rfl,rfl⟩)
 go_ret
 exact ⟨rfl,0,_,by rw[alloc_eq_grow,alloc_eq_grow,grow_grow];rfl⟩
theorem cmpe_any (B:Nat) (least:Bool) (x y:En) (W:World) (hB:W.cell? ⟨B,3,none⟩=some (.bool least)) (hlt:B<W.heap.size):Calls Tryz.prog 89 #[.agg (enC x).toArray, .agg (enC y).toArray, .pointer (some ⟨B,0,none⟩)] W fun e w'=>e= .returned (.int .i64 (cfE least x y))∧∃q os',w'=grow (W.drewN q) os':=by
 have hcon:=fun a b W'=>Tryz.cmp_Compare_int a b W'
 change ∀a b W',Calls Tryz.prog 90 _ _ _ at hcon
 obtain ⟨sx,⟨xo,xn⟩⟩:=x
 obtain ⟨sy,⟨yo,yn⟩⟩:=y
 unfold enC cfE
 simp only
 cases xo<;>cases yo<;>cases least
 all_goals
  simp only[cmpV,cond_true,cond_false,cmpI_eq]
 case true.true.true=>
  have hc:=hcon xn yn
  generalize Lib.compareInt xn yn=r at hc ⊢
  clear hcon
  go_enter Tryz.func89,Tryz.ntmps89
  go_wp2_with (go_at_call 90;refine (hc _).mono ?_;rintro e w' ⟨rfl,rfl⟩)
  go_ret
  exact ⟨rfl,0,_,by rw[alloc_eq_grow,alloc_eq_grow,grow_grow];rfl⟩
 case true.true.false=>
  have hc:=hcon yn xn
  generalize Lib.compareInt yn xn=r at hc ⊢
  clear hcon
  go_enter Tryz.func89,Tryz.ntmps89
  go_wp2_with (go_at_call 90;refine (hc _).mono ?_;rintro e w' ⟨rfl,rfl⟩)
  go_ret
  exact ⟨rfl,0,_,by rw[alloc_eq_grow,alloc_eq_grow,grow_grow];rfl⟩
 all_goals
  clear hcon
  go_enter Tryz.func89,Tryz.ntmps89
  go_wp2
  go_ret
  exact ⟨rfl,0,_,by rw[alloc_eq_grow,alloc_eq_grow,grow_grow];rfl⟩
def renS:Ren:=⟨fun|20=>112|n=>n,fun|0=>0|3=>3|4=>4|22=>22|24=>34|25=>93|n=>n,fun|n=>n⟩
theorem laysS:SlLaysF0.n20 Tryz.prog renS:={
 mixed:=by kernel_rfl
 f20:=⟨Tryz.f112.name, rfl, Tryz.func112.trans (congrArg some (by kernel_rfl))⟩
 t0:=Tryz.underlying0
 a0:=Tryz.isAgg0
 z0:=Tryz.sizeOf0
 v0:=Tryz.zeroValue0
 t3:=Tryz.underlying3
 a3:=Tryz.isAgg3
 z3:=Tryz.sizeOf3
 v3:=Tryz.zeroValue3
 t4:=Tryz.underlying4
 a4:=Tryz.isAgg4
 z4:=Tryz.sizeOf4
 v4:=Tryz.zeroValue4
 t22:=Tryz.underlying22
 a22:=Tryz.isAgg22
 z22:=Tryz.sizeOf22
 v22:=Tryz.zeroValue22
 t25:=Tryz.underlying93
 a25:=Tryz.isAgg93
 z25:=Tryz.sizeOf93
 v25:=Tryz.zeroValue93}
def renE:Ren:=⟨fun|20=>131|n=>n,fun|0=>0|3=>3|4=>4|22=>133|24=>135|25=>138|n=>n,fun|n=>n⟩
theorem laysE:SlLaysF0.n20 Tryz.prog renE:={
 mixed:=by kernel_rfl
 f20:=⟨Tryz.f131.name, rfl, Tryz.func131.trans (congrArg some (by kernel_rfl))⟩
 t0:=Tryz.underlying0
 a0:=Tryz.isAgg0
 z0:=Tryz.sizeOf0
 v0:=Tryz.zeroValue0
 t3:=Tryz.underlying3
 a3:=Tryz.isAgg3
 z3:=Tryz.sizeOf3
 v3:=Tryz.zeroValue3
 t4:=Tryz.underlying4
 a4:=Tryz.isAgg4
 z4:=Tryz.sizeOf4
 v4:=Tryz.zeroValue4
 t22:=Tryz.underlying133
 a22:=Tryz.isAgg133
 z22:=Tryz.sizeOf133
 v22:=Tryz.zeroValue133
 t25:=Tryz.underlying138
 a25:=Tryz.isAgg138
 z25:=Tryz.sizeOf138
 v25:=Tryz.zeroValue138}
theorem flat_at {α:Type} (enc:α→List Value) (k:Nat) (hk:∀x,(enc x).length=k) (hk0:0<k):∀(L:List α) (i:Nat) (h:i<L.length),∀j,j<k→(L.flatMap enc)[i*k+j]?=(enc L[i])[j]?
 | [],i,h,j,hj=>by simp at h
 | x::L,0,h,j,hj=>by
  rw[List.flatMap_cons,Nat.zero_mul,Nat.zero_add,List.getElem?_append_left (by rw[hk];exact hj)];rfl
 | x::L,i+1,h,j,hj=>by
  rw[List.flatMap_cons,List.getElem?_append_right (by rw[hk,Nat.add_mul];omega),hk,show (i+1)*k+j-k=i*k+j by rw[Nat.add_mul];omega,flat_at enc k hk hk0 L i (by simpa using h) j hj];rfl
theorem flat_len {α:Type} (enc:α→List Value) (k:Nat) (hk:∀x,(enc x).length=k) (L:List α):(L.flatMap enc).length=L.length*k:=by
 induction L with
 | nil=>simp
 | cons x L ih=>rw[List.flatMap_cons,List.length_append,ih,hk,List.length_cons,Nat.add_mul];omega
section
variable {α:Type} [Inhabited α] (enc:α→List Value) (k:Nat)
theorem gx_sort (w:World) (blk off m:Nat) (dk:Array α) (os:Array Obj):GX blk w (sortWorldK enc k w blk off m dk os):=by
 refine ⟨rfl,rfl,rfl,size_sortWorldK_c enc k w blk off m dk os,fun i hi hn=>?_⟩
 have e:(sortWorldK enc k w blk off m dk os).heap=(putRowK enc k (Sort.ahead w m) blk off dk).heap++os:=rfl
 have hs:i<(putRowK enc k (Sort.ahead w m) blk off dk).heap.size:=by rw[size_putRowK];exact hi
 rw[e,Array.getElem?_append_left hs]
 show (Array.modify w.heap blk _)[i]?=_
 rw[Array.getElem?_modify,if_neg (fun h=>hn h.symm)]
theorem flat_any (hk:∀x,(enc x).length=k) (hk0:0<k) (d:Array α) (t:Nat) (h:t<d.size*k):(d.toList.flatMap enc)[t]?=some (flatK enc k d)[t]! := by
 have hd:t/k<d.size:=(Nat.div_lt_iff_lt_mul hk0).2 h
 have hm:t%k<k:=Nat.mod_lt _ hk0
 have e:=flat_at enc k hk hk0 d.toList (t/k) (by simpa using hd) (t%k) hm
 rw[Nat.div_add_mod'] at e
 rw[e,get_flatK enc k d t h]
 have hx:d[t/k]! = d[t/k]:=getElem!_pos d (t/k) hd
 rw[hx,Array.getElem_toList]
 have hl:t%k<(enc d[t/k]).length:=by rw[hk];exact hm
 rw[List.getElem?_eq_getElem hl,getElem!_pos (enc d[t/k]) (t%k) hl]
theorem add_zero_at (g j:Nat):(⟨g,0,none⟩:Addr).add j=⟨g,0+j,none⟩:=by
 unfold Addr.add;split
 ·
  rename_i h;subst h;rfl
 ·
  rfl
theorem holds_own (hk:∀x,(enc x).length=k) (hk0:0<k) {w:World} {base g n c:Nat} {e:TypeId} {d:Array α} (h:w.ownsRow base e k (.slice (some ⟨g,0,none⟩) n c) n (d.toList.flatMap enc)) (hn:d.size=n):HoldsK enc k w g 0 d∧(0<n→g<w.heap.size∧base≤g):=by
 refine ⟨fun j hj=>?_,fun h0=>?_⟩
 ·
  rw[size_flatK] at hj
  have hx:=flat_any enc k hk hk0 d j hj
  obtain ⟨_,⟨hv,_⟩|⟨g',cap,cur,hv,_,hh,_⟩⟩:=id h
  ·
   cases hv
  ·
   injection hv with h1
   injection h1 with h1
   injection h1 with h1
   subst h1
   refine ⟨?_,frozen_of_row w g (0+j) _ _ hh⟩
   have hc:=h.cells (g:=g) rfl j _ hx
   rw[add_zero_at] at hc
   exact hc
 ·
  obtain ⟨_,⟨hv,h1⟩|⟨g',cap,cur,hv,hb,hh,_⟩⟩:=h
  ·
   cases hv
  ·
   injection hv with h1
   injection h1 with h1
   injection h1 with h1
   subst h1
   exact ⟨(Array.getElem?_eq_some_iff.1 hh).1,hb⟩
theorem rd_holds (hk:∀x,(enc x).length=k) (hk0:0<k) {w:World} {g n:Nat} {d:Array α} (h:HoldsK enc k w g 0 d) (hg:g<w.heap.size) (hn:d.size=n):Rd w k (some ⟨g,0,none⟩) n (d.toList.flatMap enc):=by
 refine ⟨by rw[flat_len enc k hk,←hn];simp,fun _=>⟨_,rfl,hg,fun j u hu=>?_⟩⟩
 have hj:j<d.size*k:=by
  have:=(List.getElem?_eq_some_iff.1 hu).1
  rw[flat_len enc k hk] at this
  simpa using this
 have hx:=flat_any enc k hk hk0 d j hj
 rw[hx] at hu
 injection hu with hu
 rw[add_zero_at,←hu]
 exact (h j (by rw[size_flatK];exact hj)).1
end
theorem sqC_len (x:Sq):(sqC x).length=5:=rfl
theorem enC_len (x:En):(enC x).length=7:=rfl
theorem sqC_one (x:Sq):∀v∈sqC x,v.oneCell'=true:=by
 intro v hv
 simp[sqC] at hv
 rcases hv with rfl|rfl|rfl|rfl|rfl<;>rfl
theorem enC_one (x:En):∀v∈enC x,v.oneCell'=true:=by
 intro v hv
 simp[enC] at hv
 rcases hv with rfl|rfl|rfl|rfl|rfl|rfl|rfl<;>rfl
theorem ins_size {α:Type} [Inhabited α] (lt:α→α→Bool) (d:Array α):(insertionSort lt d 0 d.size).size=d.size:=by
 rw[←Array.length_toList,ins_sort,sortR_len,Array.length_toList]
theorem insn_any (blk cap a b:Nat) (d:Array Sq) (w:World) (hH:HoldsK sqC 5 w blk 0 d) (hblk:blk<w.heap.size) (hab:a≤b) (hb:b≤d.size) (hsz:d.size≤1000) :
  Calls Tryz.prog 112 #[.slice (some ⟨blk,0,none⟩) d.size cap, .int .i64 a, .int .i64 b, .func (.func 53) #[] #[]] w fun e w'=>
   e= .returned (.tuple #[])∧GX blk w w'∧((insertionSort (ltOf cfN) d a b).size=d.size→HoldsK sqC 5 w' blk 0 (insertionSort (ltOf cfN) d a b)):=by
 have h:=AnyQ.insertionSortCmpFunc laysS 5 Tryz.isAgg34 Tryz.sizeOf34 sqC sqC_len sqC_one cfN 53 #[] blk 0 cap a b d w (enters_of Tryz.func53 (by kernel_rfl) rfl)
  (fun m os dk _ x y=>cmpn_any x y _) hH hblk hab hb (by omega)
 refine h.mono fun e w' ⟨he,n,os,hw⟩=>⟨he,?_,fun hs=>?_⟩
 ·
  rw[hw];exact gx_sort ..
 ·
  rw[hw];exact holdsK_sortWorldK_c sqC 5 w blk 0 d _ n os hH hblk hs
theorem inse_any (B:Nat) (least:Bool) (blk cap a b:Nat) (d:Array En) (w:World) (hB:w.cell? ⟨B,3,none⟩=some (.bool least)) (hlt:B<w.heap.size) (hne:B≠blk) (hH:HoldsK enC 7 w blk 0 d) (hblk:blk<w.heap.size) (hab:a≤b) (hb:b≤d.size) (hsz:d.size≤1000) :
  Calls Tryz.prog 131 #[.slice (some ⟨blk,0,none⟩) d.size cap, .int .i64 a, .int .i64 b, .func (.func 89) #[] #[.pointer (some ⟨B,0,none⟩)]] w fun e w'=>
   e= .returned (.tuple #[])∧GX blk w w'∧((insertionSort (ltOf (cfE least)) d a b).size=d.size→HoldsK enC 7 w' blk 0 (insertionSort (ltOf (cfE least)) d a b)):=by
 have h:=AnyQ.insertionSortCmpFunc laysE 7 Tryz.isAgg135 Tryz.sizeOf135 enC enC_len enC_one (cfE least) 89 #[.pointer (some ⟨B,0,none⟩)] blk 0 cap a b d w (enters_of Tryz.func89 (by kernel_rfl) rfl)
  (fun m os dk _ x y=>by
   have hx:=gx_sort enC 7 w blk 0 m dk os
   exact cmpe_any B least x y _ ((hx.cell (p:=⟨B,3,none⟩) hlt hne).trans hB) (Nat.lt_of_lt_of_le hlt hx.size)) hH hblk hab hb (by omega)
 refine h.mono fun e w' ⟨he,n,os,hw⟩=>⟨he,?_,fun hs=>?_⟩
 ·
  rw[hw];exact gx_sort ..
 ·
  rw[hw];exact holdsK_sortWorldK_c enC 7 w blk 0 d _ n os hH hblk hs
end
section
open Go.RowKit Go.Sort Go.Shelf
theorem inszn_any (A:Option Addr) (c:Nat) (f:Value) (w:World) :
  Calls Tryz.prog 112 #[.slice A 0 c, .int .i64 0, .int .i64 0,f] w fun e w'=>e= .returned (.tuple #[])∧w=w':=by
 go_enter Tryz.func112,Tryz.ntmps112
 go_wp2
 go_loopw [8] (fun i wr=>i= .int .i64 1∧wr=w) (fun _ _=>0)
 case atStart=>exact ⟨rfl,rfl⟩
 case round=>
  obtain ⟨rfl,rfl⟩:=hrel
  go_wp2
  go_end0
  exact ⟨rfl,rfl⟩
theorem stabzn_any (A:Option Addr) (c:Nat) (f:Value) (w:World) :
  Calls Tryz.prog 86 #[.slice A 0 c, .int .i64 0,f] w fun e w'=>e= .returned (.tuple #[])∧w=w':=by
 go_enter Tryz.func86,Tryz.ntmps86
 go_wp2
 go_loopw [7,8] (fun a b wr=>a= .int .i64 0∧b= .int .i64 20∧wr=w) (fun _ _ _=>0)
 case atStart=>exact ⟨rfl,rfl,rfl⟩
 case round=>
  obtain ⟨rfl,rfl,rfl⟩:=hrel
  go_wp2_with fail
  refine (inszn_any A c f _).mono ?_;rintro e w1 ⟨rfl,rfl⟩
  go_wp2
  go_loopw [6] (fun a wr2=>a= .int .i64 20∧wr2=wr) (fun _ _=>0)
  case atStart=>exact ⟨rfl,rfl⟩
  case round=>
   obtain ⟨rfl,rfl⟩:=hrel
   go_wp2
   go_end0
   exact ⟨rfl,rfl⟩
theorem stabn_any (blk cap:Nat) (d:Array Sq) (w:World) (hH:HoldsK sqC 5 w blk 0 d) (hblk:blk<w.heap.size) (h20:d.size≤20) :
  Calls Tryz.prog 86 #[.slice (some ⟨blk,0,none⟩) d.size cap, .int .i64 d.size, .func (.func 53) #[] #[]] w fun e w'=>
   e= .returned (.tuple #[])∧GX blk w w'∧HoldsK sqC 5 w' blk 0 (insertionSort (ltOf cfN) d 0 d.size):=by
 have hs:=ins_size (ltOf cfN) d
 by_cases hn:d.size=20
 ·
  have h1:(20:Int)≤(d.size:Int):=by omega
  have h2:¬(40:Int)≤(d.size:Int):=by omega
  have h3:¬(20:Int)<(d.size:Int):=by omega
  have Q0:Calls Tryz.prog 112 #[.slice (some ⟨blk,0,none⟩) d.size cap, .int .i64 0, .int .i64 20, .func (.func 53) #[] #[]] w fun e w'=>
   e= .returned (.tuple #[])∧GX blk w w'∧HoldsK sqC 5 w' blk 0 (insertionSort (ltOf cfN) d 0 d.size):=by
   have h:=insn_any blk cap 0 d.size d w hH hblk (Nat.zero_le _) (Nat.le_refl _) (by omega)
   have e20:(d.size:Int)=20:=by omega
   have h':Calls Tryz.prog 112 #[.slice (some ⟨blk,0,none⟩) d.size cap, .int .i64 0, .int .i64 (d.size:Int), .func (.func 53) #[] #[]] w _:=h
   rw[e20] at h'
   exact h'.mono fun e w' ⟨he,hg,hh⟩=>⟨he,hg,hh hs⟩
  obtain ⟨D,hD⟩:∃D,insertionSort (ltOf cfN) d 0 d.size=D:=⟨_,rfl⟩
  rw[hD] at Q0 hs ⊢
  have Q2:Hid (∀wr,GX blk w wr→HoldsK sqC 5 wr blk 0 D→Calls Tryz.prog 112 #[.slice (some ⟨blk,0,none⟩) d.size cap, .int .i64 20, .int .i64 (d.size:Int), .func (.func 53) #[] #[]] wr fun e w'=>
   e= .returned (.tuple #[])∧GX blk wr w'∧HoldsK sqC 5 w' blk 0 D):=Lib.hid (fun wr hgx hh=>by
   have h:=insn_any blk cap 20 D.size D wr hh (Nat.lt_of_lt_of_le hblk hgx.size) (by omega) (Nat.le_refl _) (by omega)
   have e20:D.size=20:=by omega
   rw[e20,ins_none,hn.symm] at h
   have e21:(20:Int)=(d.size:Int):=by omega
   rw[e21]
   exact h.mono fun e w' ⟨he,hg,hh⟩=>⟨he,hg,hh (by omega)⟩)
  have Q0:=Lib.hid Q0
  have HD:=Lib.hid hD
  clear hs hn hD
  go_enter Tryz.func86,Tryz.ntmps86
  go_wp2
  go_loopw [7,8] (fun a b wr=>(a= .int .i64 0∧b= .int .i64 20∧wr=w)∨(a= .int .i64 20∧b= .int .i64 40∧GX blk w wr∧HoldsK sqC 5 wr blk 0 D)) (fun _ b _=>100-(intOf b).toNat)
  case atStart=>exact .inl ⟨rfl,rfl,rfl⟩
  case round=>
   rcases hrel with ⟨rfl,rfl,rfl⟩|⟨rfl,rfl,hgx,hh⟩
   ·
    go_wp2_with fail
    refine Q0.out.mono ?_;rintro e w1 ⟨rfl,hgx,hh⟩
    go_wp2
    go_roundw
    case rel=>exact .inr ⟨rfl,rfl,hgx,hh⟩
    case measure=>simp[intOf]
   ·
    go_wp2_with fail
    refine (Q2.out _ hgx hh).mono ?_;rintro e w1 ⟨rfl,hgx1,hh1⟩
    have hgx2:=hgx.trans hgx1
    go_wp2
    go_loopw [6] (fun a wr2=>a= .int .i64 20∧wr2=w1) (fun _ _=>0)
    case atStart=>exact ⟨rfl,rfl⟩
    case round=>
     obtain ⟨rfl,rfl⟩:=hrel
     go_wp2
     go_end0
     exact ⟨rfl,hgx2,hh1⟩
 ·
  have h1:¬(20:Int)≤(d.size:Int):=by omega
  have h3:¬(20:Int)<(d.size:Int):=by omega
  have Q0:Calls Tryz.prog 112 #[.slice (some ⟨blk,0,none⟩) d.size cap, .int .i64 0, .int .i64 (d.size:Int), .func (.func 53) #[] #[]] w fun e w'=>
   e= .returned (.tuple #[])∧GX blk w w'∧HoldsK sqC 5 w' blk 0 (insertionSort (ltOf cfN) d 0 d.size):=by
   have h:=insn_any blk cap 0 d.size d w hH hblk (Nat.zero_le _) (Nat.le_refl _) (by omega)
   exact h.mono fun e w' ⟨he,hg,hh⟩=>⟨he,hg,hh hs⟩
  generalize insertionSort (ltOf cfN) d 0 d.size=D at Q0 hs ⊢
  have Q0:=Lib.hid Q0
  clear hs hn
  go_enter Tryz.func86,Tryz.ntmps86
  go_wp2
  go_loopw [7,8] (fun a b wr=>a= .int .i64 0∧b= .int .i64 20∧wr=w) (fun _ _ _=>0)
  case atStart=>exact ⟨rfl,rfl,rfl⟩
  case round=>
   obtain ⟨rfl,rfl,rfl⟩:=hrel
   go_wp2_with fail
   refine Q0.out.mono ?_;rintro e w1 ⟨rfl,hgx,hh⟩
   go_wp2
   go_loopw [6] (fun a wr2=>a= .int .i64 20∧wr2=w1) (fun _ _=>0)
   case atStart=>exact ⟨rfl,rfl⟩
   case round=>
    obtain ⟨rfl,rfl⟩:=hrel
    go_wp2
    go_end0
    exact ⟨rfl,hgx,hh⟩
theorem sortn_any (base c:Nat) (A:Option Addr) (L:List Sq) (wb w:World) (h20:L.length≤20) (hown:w.ownsRow base 34 5 (.slice A L.length c) L.length (L.flatMap sqC)) (hg:Gr wb w) (hb:wb.heap.size≤base) :
  Calls Tryz.prog 52 #[.slice A L.length c, .func (.func 53) #[] #[]] w fun e w'=>
   e= .returned (.tuple #[])∧Gr wb w'∧Rd w' 5 A L.length ((sortR (fun a b=>ltN a.s.name b.s.name) L).flatMap sqC):=by
 rcases Nat.eq_zero_or_pos L.length with h0|h0
 ·
  have hL:L=[]:=List.eq_nil_of_length_eq_zero h0
  subst hL
  show Calls Tryz.prog 52 #[.slice A 0 c, .func (.func 53) #[] #[]] w _
  clear hown h20 h0
  go_enter Tryz.func52,Tryz.ntmps52
  go_wp2_with fail
  refine (stabzn_any A c _ _).mono ?_;rintro e w1 ⟨rfl,rfl⟩
  go_wp2
  go_end0
  exact ⟨rfl,hg,Rd.nil _ _ _⟩
 ·
  obtain ⟨g,hgA⟩:∃g,A=some ⟨g,0,none⟩:=by
   obtain ⟨_,⟨hv,h1⟩|⟨g',cap,cur,hv,_⟩⟩:=id hown
   ·
    omega
   ·
    injection hv with h1
    exact ⟨g',h1⟩
  subst hgA
  obtain ⟨hH,hgb⟩:=holds_own sqC 5 sqC_len (by decide) (d:=L.toArray) hown (by simp)
  obtain ⟨hblk,hbase⟩:=hgb h0
  have hs:=stabn_any g c L.toArray w hH hblk (by simpa using h20)
  have hi:=ins_sort (ltOf cfN) L.toArray
  have hz:=ins_size (ltOf cfN) L.toArray
  have hlt:ltOf cfN=(fun a b=>ltN a.s.name b.s.name):=by funext x y;exact cfN_lt x y
  simp only[List.size_toArray] at hs hi hz
  rw[hlt] at hs hi hz
  have HI:=Lib.hid hi
  have HZ:=Lib.hid hz
  have HS:=Lib.hid hs
  clear hs hi hz hlt hown hH h20
  go_enter Tryz.func52,Tryz.ntmps52
  go_wp2_with fail
  refine HS.out.mono ?_;rintro e w1 ⟨rfl,hgx,hh⟩
  have hgr:=hgx.gr hg (by omega)
  have hrd:=rd_holds sqC 5 sqC_len (by decide) hh (Nat.lt_of_lt_of_le hblk hgx.size) HZ.out
  rw[HI.out] at hrd
  go_wp2
  go_end0
  exact ⟨rfl,hgr,hrd⟩
theorem insze_any (A:Option Addr) (c:Nat) (f:Value) (w:World) :
  Calls Tryz.prog 131 #[.slice A 0 c, .int .i64 0, .int .i64 0,f] w fun e w'=>e= .returned (.tuple #[])∧w=w':=by
 go_enter Tryz.func131,Tryz.ntmps131
 go_wp2
 go_loopw [8] (fun i wr=>i= .int .i64 1∧wr=w) (fun _ _=>0)
 case atStart=>exact ⟨rfl,rfl⟩
 case round=>
  obtain ⟨rfl,rfl⟩:=hrel
  go_wp2
  go_end0
  exact ⟨rfl,rfl⟩
theorem stabze_any (A:Option Addr) (c:Nat) (f:Value) (w:World) :
  Calls Tryz.prog 115 #[.slice A 0 c, .int .i64 0,f] w fun e w'=>e= .returned (.tuple #[])∧w=w':=by
 go_enter Tryz.func115,Tryz.ntmps115
 go_wp2
 go_loopw [7,8] (fun a b wr=>a= .int .i64 0∧b= .int .i64 20∧wr=w) (fun _ _ _=>0)
 case atStart=>exact ⟨rfl,rfl,rfl⟩
 case round=>
  obtain ⟨rfl,rfl,rfl⟩:=hrel
  go_wp2_with fail
  refine (insze_any A c f _).mono ?_;rintro e w1 ⟨rfl,rfl⟩
  go_wp2
  go_loopw [6] (fun a wr2=>a= .int .i64 20∧wr2=wr) (fun _ _=>0)
  case atStart=>exact ⟨rfl,rfl⟩
  case round=>
   obtain ⟨rfl,rfl⟩:=hrel
   go_wp2
   go_end0
   exact ⟨rfl,rfl⟩
theorem stabe_any (B:Nat) (least:Bool) (blk cap:Nat) (d:Array En) (w:World) (hB:w.cell? ⟨B,3,none⟩=some (.bool least)) (hlt:B<w.heap.size) (hne:B≠blk) (hH:HoldsK enC 7 w blk 0 d) (hblk:blk<w.heap.size) (h20:d.size≤20) :
  Calls Tryz.prog 115 #[.slice (some ⟨blk,0,none⟩) d.size cap, .int .i64 d.size, .func (.func 89) #[] #[.pointer (some ⟨B,0,none⟩)]] w fun e w'=>
   e= .returned (.tuple #[])∧GX blk w w'∧HoldsK enC 7 w' blk 0 (insertionSort (ltOf (cfE least)) d 0 d.size):=by
 have hs:=ins_size (ltOf (cfE least)) d
 by_cases hn:d.size=20
 ·
  have h1:(20:Int)≤(d.size:Int):=by omega
  have h2:¬(40:Int)≤(d.size:Int):=by omega
  have h3:¬(20:Int)<(d.size:Int):=by omega
  have Q0:Calls Tryz.prog 131 #[.slice (some ⟨blk,0,none⟩) d.size cap, .int .i64 0, .int .i64 20, .func (.func 89) #[] #[.pointer (some ⟨B,0,none⟩)]] w fun e w'=>
   e= .returned (.tuple #[])∧GX blk w w'∧HoldsK enC 7 w' blk 0 (insertionSort (ltOf (cfE least)) d 0 d.size):=by
   have h:=inse_any B least blk cap 0 d.size d w hB hlt hne hH hblk (Nat.zero_le _) (Nat.le_refl _) (by omega)
   have e20:(d.size:Int)=20:=by omega
   have h':Calls Tryz.prog 131 #[.slice (some ⟨blk,0,none⟩) d.size cap, .int .i64 0, .int .i64 (d.size:Int), .func (.func 89) #[] #[.pointer (some ⟨B,0,none⟩)]] w _:=h
   rw[e20] at h'
   exact h'.mono fun e w' ⟨he,hg,hh⟩=>⟨he,hg,hh hs⟩
  obtain ⟨D,hD⟩:∃D,insertionSort (ltOf (cfE least)) d 0 d.size=D:=⟨_,rfl⟩
  rw[hD] at Q0 hs ⊢
  have Q2:Hid (∀wr,GX blk w wr→HoldsK enC 7 wr blk 0 D→Calls Tryz.prog 131 #[.slice (some ⟨blk,0,none⟩) d.size cap, .int .i64 20, .int .i64 (d.size:Int), .func (.func 89) #[] #[.pointer (some ⟨B,0,none⟩)]] wr fun e w'=>
   e= .returned (.tuple #[])∧GX blk wr w'∧HoldsK enC 7 w' blk 0 D):=Lib.hid (fun wr hgx hh=>by
   have h:=inse_any B least blk cap 20 D.size D wr ((hgx.cell (p:=⟨B,3,none⟩) hlt hne).trans hB) (Nat.lt_of_lt_of_le hlt hgx.size) hne hh (Nat.lt_of_lt_of_le hblk hgx.size) (by omega) (Nat.le_refl _) (by omega)
   have e20:D.size=20:=by omega
   rw[e20,ins_none,hn.symm] at h
   have e21:(20:Int)=(d.size:Int):=by omega
   rw[e21]
   exact h.mono fun e w' ⟨he,hg,hh⟩=>⟨he,hg,hh (by omega)⟩)
  have Q0:=Lib.hid Q0
  have HD:=Lib.hid hD
  clear hs hn hD
  go_enter Tryz.func115,Tryz.ntmps115
  go_wp2
  go_loopw [7,8] (fun a b wr=>(a= .int .i64 0∧b= .int .i64 20∧wr=w)∨(a= .int .i64 20∧b= .int .i64 40∧GX blk w wr∧HoldsK enC 7 wr blk 0 D)) (fun _ b _=>100-(intOf b).toNat)
  case atStart=>exact .inl ⟨rfl,rfl,rfl⟩
  case round=>
   rcases hrel with ⟨rfl,rfl,rfl⟩|⟨rfl,rfl,hgx,hh⟩
   ·
    go_wp2_with fail
    refine Q0.out.mono ?_;rintro e w1 ⟨rfl,hgx,hh⟩
    go_wp2
    go_roundw
    case rel=>exact .inr ⟨rfl,rfl,hgx,hh⟩
    case measure=>simp[intOf]
   ·
    go_wp2_with fail
    refine (Q2.out _ hgx hh).mono ?_;rintro e w1 ⟨rfl,hgx1,hh1⟩
    have hgx2:=hgx.trans hgx1
    go_wp2
    go_loopw [6] (fun a wr2=>a= .int .i64 20∧wr2=w1) (fun _ _=>0)
    case atStart=>exact ⟨rfl,rfl⟩
    case round=>
     obtain ⟨rfl,rfl⟩:=hrel
     go_wp2
     go_end0
     exact ⟨rfl,hgx2,hh1⟩
 ·
  have h1:¬(20:Int)≤(d.size:Int):=by omega
  have h3:¬(20:Int)<(d.size:Int):=by omega
  have Q0:Calls Tryz.prog 131 #[.slice (some ⟨blk,0,none⟩) d.size cap, .int .i64 0, .int .i64 (d.size:Int), .func (.func 89) #[] #[.pointer (some ⟨B,0,none⟩)]] w fun e w'=>
   e= .returned (.tuple #[])∧GX blk w w'∧HoldsK enC 7 w' blk 0 (insertionSort (ltOf (cfE least)) d 0 d.size):=by
   have h:=inse_any B least blk cap 0 d.size d w hB hlt hne hH hblk (Nat.zero_le _) (Nat.le_refl _) (by omega)
   exact h.mono fun e w' ⟨he,hg,hh⟩=>⟨he,hg,hh hs⟩
  generalize insertionSort (ltOf (cfE least)) d 0 d.size=D at Q0 hs ⊢
  have Q0:=Lib.hid Q0
  clear hs hn
  go_enter Tryz.func115,Tryz.ntmps115
  go_wp2
  go_loopw [7,8] (fun a b wr=>a= .int .i64 0∧b= .int .i64 20∧wr=w) (fun _ _ _=>0)
  case atStart=>exact ⟨rfl,rfl,rfl⟩
  case round=>
   obtain ⟨rfl,rfl,rfl⟩:=hrel
   go_wp2_with fail
   refine Q0.out.mono ?_;rintro e w1 ⟨rfl,hgx,hh⟩
   go_wp2
   go_loopw [6] (fun a wr2=>a= .int .i64 20∧wr2=w1) (fun _ _=>0)
   case atStart=>exact ⟨rfl,rfl⟩
   case round=>
    obtain ⟨rfl,rfl⟩:=hrel
    go_wp2
    go_end0
    exact ⟨rfl,hgx,hh⟩
theorem sorte_any (B:Nat) (least:Bool) (base c:Nat) (A:Option Addr) (L:List En) (wb w:World) (hB:wb.cell? ⟨B,3,none⟩=some (.bool least)) (hlt:B<wb.heap.size) (h20:L.length≤20) (hown:w.ownsRow base 135 7 (.slice A L.length c) L.length (L.flatMap enC)) (hg:Gr wb w) (hb:wb.heap.size≤base) :
  Calls Tryz.prog 88 #[.slice A L.length c, .func (.func 89) #[] #[.pointer (some ⟨B,0,none⟩)]] w fun e w'=>
   e= .returned (.tuple #[])∧Gr wb w'∧Rd w' 7 A L.length ((sortR (fun a b=>ltV least a.2 b.2) L).flatMap enC):=by
 rcases Nat.eq_zero_or_pos L.length with h0|h0
 ·
  have hL:L=[]:=List.eq_nil_of_length_eq_zero h0
  subst hL
  show Calls Tryz.prog 88 #[.slice A 0 c, .func (.func 89) #[] #[.pointer (some ⟨B,0,none⟩)]] w _
  clear hown h20 h0 hB hlt
  go_enter Tryz.func88,Tryz.ntmps88
  go_wp2_with fail
  refine (stabze_any A c _ _).mono ?_;rintro e w1 ⟨rfl,rfl⟩
  go_wp2
  go_end0
  exact ⟨rfl,hg,Rd.nil _ _ _⟩
 ·
  obtain ⟨g,hgA⟩:∃g,A=some ⟨g,0,none⟩:=by
   obtain ⟨_,⟨hv,h1⟩|⟨g',cap,cur,hv,_⟩⟩:=id hown
   ·
    omega
   ·
    injection hv with h1
    exact ⟨g',h1⟩
  subst hgA
  obtain ⟨hH,hgb⟩:=holds_own enC 7 enC_len (by decide) (d:=L.toArray) hown (by simp)
  obtain ⟨hblk,hbase⟩:=hgb h0
  have hs:=stabe_any B least g c L.toArray w ((hg.cell (p:=⟨B,3,none⟩) hlt).trans hB) (Nat.lt_of_lt_of_le hlt hg.size) (by omega) hH hblk (by simpa using h20)
  have hi:=ins_sort (ltOf (cfE least)) L.toArray
  have hz:=ins_size (ltOf (cfE least)) L.toArray
  have hlt:ltOf (cfE least)=(fun a b=>ltV least a.2 b.2):=by funext x y;exact cfE_lt least x y
  simp only[List.size_toArray] at hs hi hz
  rw[hlt] at hs hi hz
  have HI:=Lib.hid hi
  have HZ:=Lib.hid hz
  have HS:=Lib.hid hs
  clear hs hi hz hlt hown hH h20
  go_enter Tryz.func88,Tryz.ntmps88
  go_wp2_with fail
  refine HS.out.mono ?_;rintro e w1 ⟨rfl,hgx,hh⟩
  have hgr:=hgx.gr hg (by omega)
  have hrd:=rd_holds enC 7 enC_len (by decide) hh (Nat.lt_of_lt_of_le hblk hgx.size) HZ.out
  rw[HI.out] at hrd
  go_wp2
  go_end0
  exact ⟨rfl,hgr,hrd⟩
end
open Go.RowKit
theorem info_ent:(Tryz.prog.info? 135).map (fun i=>(i.zero,i.size,i.bytes))=some (some (.agg #[.string ⟨#[]⟩, .int .i64 0, .int .i64 0, .slice none 0 0, .int .i64 0, .bool false, .int .i64 0]),7,80):=by kernel_rfl
def BAt (W:World) (B:Nat) (x:Sq):Prop:=W.cell? ⟨B,0,none⟩=some (.string x.s.name)∧W.cell? ⟨B,1,none⟩=some (.int .i64 x.s.start)∧W.cell? ⟨B,2,none⟩=some (.int .i64 x.s.step)∧W.cell? ⟨B,3,none⟩=some (.slice x.A x.s.vals.length x.c)∧W.cell? ⟨B,4,none⟩=some (.int .i64 x.s.cons)∧B<W.heap.size
theorem BAt.gr {w w':World} {B:Nat} {x:Sq} (h:BAt w B x) (g:Gr w w'):BAt w' B x:=by
 obtain ⟨b0,b1,b2,b3,b4,b5⟩:=h
 exact ⟨(g.cell (p:=⟨B,0,none⟩) b5).trans b0,(g.cell (p:=⟨B,1,none⟩) b5).trans b1,(g.cell (p:=⟨B,2,none⟩) b5).trans b2,(g.cell (p:=⟨B,3,none⟩) b5).trans b3,(g.cell (p:=⟨B,4,none⟩) b5).trans b4,Nat.lt_of_lt_of_le b5 g.size⟩
theorem BAt.grown {w w':World} {B:Nat} {x:Sq} {row:Option Nat} (h:BAt w B x) (g:w.grownBy w' row) (hr:some B≠row):BAt w' B x:=by
 obtain ⟨b0,b1,b2,b3,b4,b5⟩:=h
 exact ⟨g.cell b0 hr,g.cell b1 hr,g.cell b2 hr,g.cell b3 hr,g.cell b4 hr,Nat.lt_of_lt_of_le b5 g.size⟩
theorem FAt.grown {w w':World} {B:Nat} {r:Fr} {row:Option Nat} (h:FAt w B r) (g:w.grownBy w' row) (hr:some B≠row):FAt w' B r:=by
 obtain ⟨b0,b1,b2,b3,b5⟩:=h
 exact ⟨g.cell b0 hr,g.cell b1 hr,g.cell b2 hr,g.cell b3 hr,Nat.lt_of_lt_of_le b5 g.size⟩
def SrtS (R B:Nat) (r:Fr) (x:Sq) (W:World):Prop:=FAt W R r∧BAt W B x
theorem SrtS.gr {R B:Nat} {r:Fr} {x:Sq} {w w':World} (h:SrtS R B r x w) (g:Gr w w'):SrtS R B r x w':=⟨h.1.gr g,h.2.gr g⟩
theorem SrtS.grown {R B:Nat} {r:Fr} {x:Sq} {w w':World} {row:Option Nat} (h:SrtS R B r x w) (g:w.grownBy w' row) (hr:∀j,row=some j→R≠j∧B≠j):SrtS R B r x w':=
 ⟨h.1.grown g (fun e=>(hr R e.symm).1 rfl),h.2.grown g (fun e=>(hr B e.symm).2 rfl)⟩
theorem Rd.en {w:World} {A:Option Addr} {L:List En} (h:Rd w 7 A L.length (L.flatMap enC)) {k:Nat} (hk:k<L.length) :
  ∃ad:Addr,A=some ad∧ad.block<w.heap.size∧∀e,L[k]=e→w.cell? (ad.add (k*7))=some (.string e.1.s.name)∧w.cell? ⟨(ad.add (k*7)).block,(ad.add (k*7)).off+1,none⟩=some (.int .i64 e.1.s.start)∧w.cell? ⟨(ad.add (k*7)).block,(ad.add (k*7)).off+2,none⟩=some (.int .i64 e.1.s.step)∧w.cell? ⟨(ad.add (k*7)).block,(ad.add (k*7)).off+3,none⟩=some (.slice e.1.A e.1.s.vals.length e.1.c)∧w.cell? ⟨(ad.add (k*7)).block,(ad.add (k*7)).off+4,none⟩=some (.int .i64 e.1.s.cons)∧w.cell? ⟨(ad.add (k*7)).block,(ad.add (k*7)).off+5,none⟩=some (.bool e.2.ok)∧w.cell? ⟨(ad.add (k*7)).block,(ad.add (k*7)).off+6,none⟩=some (.int .i64 e.2.n):=by
 obtain ⟨ad,e,hb,hc⟩:=h.2 (by omega)
 refine ⟨ad,e,hb,fun x hx=>?_⟩
 have hf:=fun j (hj:j<7)=>flat_at enC 7 enC_len (by decide) L k hk j hj
 rw[hx] at hf
 exact ⟨hc _ _ (hf 0 (by decide)),(congrArg w.cell? (add_next ad (k*7) 0)).symm.trans (hc _ _ (hf 1 (by decide))),(congrArg w.cell? (add_next ad (k*7) 1)).symm.trans (hc _ _ (hf 2 (by decide))),(congrArg w.cell? (add_next ad (k*7) 2)).symm.trans (hc _ _ (hf 3 (by decide))),(congrArg w.cell? (add_next ad (k*7) 3)).symm.trans (hc _ _ (hf 4 (by decide))),(congrArg w.cell? (add_next ad (k*7) 4)).symm.trans (hc _ _ (hf 5 (by decide))),(congrArg w.cell? (add_next ad (k*7) 5)).symm.trans (hc _ _ (hf 6 (by decide)))⟩
def enF (r:Fr) (x:Sq):En:=(x,ofR r.by_ x.s.vals)
theorem sort_en (r:Fr) (L:List Sq):(sortR (fun a b=>ltV r.least a.2 b.2) (L.map (enF r))).map Prod.fst=sortR (fun a b=>ltV r.least (ofR r.by_ a.s.vals) (ofR r.by_ b.s.vals)) L:=by
 rw[←sortR_map (enF r) (fun (a b:En)=>ltV r.least a.2 b.2) L,List.map_map]
 show (List.map id _)=_
 rw[List.map_id]
 rfl
theorem sorted_any (r:Fr) (A:Option Addr) (c:Nat) (L:List Sq) (w:World) (h20:L.length≤20) (hle:∀x∈L,x.s.vals.length≤1000000) (hr:Rl w A L) (hv:Lie w L) :
  Calls Tryz.prog 55 #[aggFr r, .slice A L.length c] w (RetL (sortR (fun a b=>ltV r.least (ofR r.by_ a.s.vals) (ofR r.by_ b.s.vals)) L) w):=by
 obtain ⟨i0,hi0,hz0,hz1,hz2⟩:=info_parts info_ser
 obtain ⟨j0,hj0,hy0,hy1,hy2⟩:=info_parts info_ent
 have h20':(L.length:Int)≤20:=by omega
 have HLE:=Lib.hid hle
 clear hle
 unfold aggFr
 go_enter Tryz.func55,Tryz.ntmps55
 go_wp2
 go_loopw [5,13] (fun v i wr=>∃(k:Nat) (M:List En),k≤L.length∧i= .int .i64 k∧Gr w wr∧Gr (w.alloc (.cells #[.string r.nm, .int .i64 r.kind, .int .i64 r.by_, .bool r.least] 46)) wr∧FAt wr w.heap.size r∧wr.ownsRow (w.heap.size+1) 135 7 v k (M.flatMap enC)∧M.length=k∧Hid (M=(L.take k).map (enF r))) (fun _ i _=>L.length-(intOf i).toNat)
 case atStart=>
  refine ⟨0,[],Nat.zero_le _,rfl,Gr.alloc (Gr.refl _) _,Gr.refl _,?_,World.ownsRow_nil _ _ _ _,rfl,Lib.hid rfl⟩
  refine ⟨?_,?_,?_,?_,?_⟩
  all_goals first|(go_simp;done)|(simp;done)
 case round=>
  obtain ⟨k,M,hk,rfl,hgr,hgW,hFA,hown,hMl,HM⟩:=hrel
  by_cases hlt:k<L.length
  ·
   obtain ⟨x,hx⟩:∃x,L[k]=x:=⟨_,rfl⟩
   obtain ⟨ad,rfl,hb,hx0,hx1,hx2,hx3,hx4⟩:=(hr.gr hgr).at hlt
   have hvx:=hv _ (List.getElem_mem hlt)
   have hlx:=HLE.out _ (List.getElem_mem hlt)
   rw[hx] at hx0 hx1 hx2 hx3 hx4 hvx hlx
   have HM2:Hid (M++[enF r x]=(L.take (k+1)).map (enF r)):=Lib.hid (by rw[List.take_succ_eq_append_getElem hlt,List.map_append,HM.out,hx];rfl)
   have Q:=fun w hr=>rowof_any r x.s x.A x.c w hlx hr
   unfold aggFr aggSr at Q
   have hvlr:=fun j hj=>And.intro (hown.lt j hj).1 (hown.lt j hj).2
   clear hx HM hlx
   go_wp2
   have hS0:SrtS w.heap.size wr.heap.size r x (wr.alloc (.cells #[.string x.s.name, .int .i64 x.s.start, .int .i64 x.s.step, .slice x.A x.s.vals.length x.c, .int .i64 x.s.cons] 34)).drew:=⟨hFA.gr (Gr.drew (Gr.alloc (Gr.refl _) _)),by
    refine ⟨?_,?_,?_,?_,?_,?_⟩
    all_goals first|(go_simp;done)|(simp;done)⟩
   have hown0:=(hown.alloc (.cells #[.string x.s.name, .int .i64 x.s.start, .int .i64 x.s.step, .slice x.A x.s.vals.length x.c, .int .i64 x.s.cons] 34)).drew
   have gW0:Gr (w.alloc (.cells #[.string r.nm, .int .i64 r.kind, .int .i64 r.by_, .bool r.least] 46)) (wr.alloc (.cells #[.string x.s.name, .int .i64 x.s.start, .int .i64 x.s.step, .slice x.A x.s.vals.length x.c, .int .i64 x.s.cons] 34)).drew:=Gr.drew (Gr.alloc hgW _)
   have gV0:Gr w (wr.alloc (.cells #[.string x.s.name, .int .i64 x.s.start, .int .i64 x.s.step, .slice x.A x.s.vals.length x.c, .int .i64 x.s.cons] 34)).drew:=Gr.drew (Gr.alloc hgr _)
   obtain ⟨V,hV⟩:∃V,V=(wr.alloc (.cells #[.string x.s.name, .int .i64 x.s.start, .int .i64 x.s.step, .slice x.A x.s.vals.length x.c, .int .i64 x.s.cons] 34)).drew:=⟨_,rfl⟩
   refine wp_region_Z 8 (SrtS w.heap.size wr.heap.size r x) (by kernel_rfl) ?_
   rw[←hV] at hS0 hown0 gV0 gW0 ⊢
   clear hV hgW hx0 hx1 hx2 hx3 hx4 hFA hown
   refine zt 0 rfl hS0 (fun W hS=>by go_simp;rfl) ?_
   refine zt 1 rfl hS0 (fun W hS=>by obtain ⟨⟨r0,r1,r2,r3,r4⟩,b0,b1,b2,b3,b4,b5⟩:=hS;go_simp;rfl) ?_
   refine zt 2 rfl hS0 (fun W hS=>by obtain ⟨⟨r0,r1,r2,r3,r4⟩,b0,b1,b2,b3,b4,b5⟩:=hS;go_simp;rfl) ?_
   refine zt 3 rfl hS0 (fun W hS=>by obtain ⟨⟨r0,r1,r2,r3,r4⟩,b0,b1,b2,b3,b4,b5⟩:=hS;go_simp;rfl) ?_
   refine zs 4 rfl (fun K hK=>?_)
   go_simp
   refine (Q _ (hvx.gr gV0)).mono ?_;rintro e w5 ⟨rfl,hg5⟩
   have gV5:=Gr.trans gV0 hg5
   have gW5:=Gr.trans gW0 hg5
   have hS5:=hS0.gr hg5
   have hown5:=own_gr hown0 hg5
   go_wp2_with fail
   refine hK.out _ _ (fun hnz=>?s5) (fun _=>?r5)
   case s5=>exact hS5
   clear hK K
   try simp only[Pu]
   refine zt 5 rfl hS5 (fun W hS=>by go_simp;rfl) ?_
   refine zs 6 rfl (fun K hK=>?_)
   have hrx:=Rd.new (W:=w5) rfl 135 (n:=1) (size:=7) (enC (enF r x)) rfl
   have hS6:=hS5.gr (Gr.alloc (Gr.refl _) (.cells (enC (enF r x)).toArray 135))
   have hown6:=hown5.alloc (.cells (enC (enF r x)).toArray 135)
   have gV6:=Gr.alloc gV5 (.cells (enC (enF r x)).toArray 135)
   have z5:w.heap.size+1≤w5.heap.size:=by have:=hS5.1.2.2.2.2;omega
   have hvl:=hown5.lt
   have zB:wr.heap.size<w5.heap.size:=hS5.2.2.2.2.2.2
   go_simp
   refine hK.out _ _ (fun hnz=>?s7) (fun _=>?r7)
   case s7=>exact hS6
   clear hK K
   try simp only[Pu]
   refine zs 7 rfl (fun K hK=>?_)
   refine wp_append_rd (.tmp 17) (.tmp 23) 133 rfl (w.heap.size+1) 135 j0 _ 7 80 Tryz.underlying133 hj0 hy0 hy1 hy2 rfl (by decide) _ k _ rfl hown6 ⟨w5.heap.size,0,none⟩ 1 _ (enC (enF r x)) rfl hrx (by decide) (enC_one _) (by unfold maxLen;omega) (by omega) (by simp;omega) ?_
   intro v' w9 hown9 hgr9 _
   have hg9:Gr w w9:=Gr.grown gV6 hgr9 (fun j hj=>by have:=(hvl j hj).1;omega)
   have hW9:Gr (w.alloc (.cells #[.string r.nm, .int .i64 r.kind, .int .i64 r.by_, .bool r.least] 46)) w9:=Gr.grown (Gr.alloc gW5 _) hgr9 (fun j hj=>by have:=(hvl j hj).1;simp;omega)
   have hS9:SrtS w.heap.size wr.heap.size r x w9:=hS6.grown hgr9 (fun j hj=>by have:=(hvlr j hj);omega)
   clear hgr9 hS6 hown6 gV6 hvl hrx
   refine hK.out _ _ (fun hnz=>?s8) (fun _=>?r8)
   case s8=>exact hS9
   clear hK K
   try simp only[Pu]
   refine zs 8 rfl (fun K hK=>?_)
   go_simp
   refine hK.out _ _ (fun hnz=>?s9) (fun _=>?r9)
   case s9=>exact hS9
   clear hK K
   try simp only[Pu]
   refine wpAnyZ_done (by kernel_rfl) ?_ _
   have hown10:w9.ownsRow (w.heap.size+1) 135 7 v' (k+1) ((M++[enF r x]).flatMap enC):=by rw[List.flatMap_append];simpa using hown9
   have hFA9:=hS9.1
   clear hS9 hown9 hS0 hown0 hvlr
   go_wp2
   go_roundw
   case rel=>exact ⟨k+1,M++[enF r x],by omega,by go_num,hg9,hW9,hFA9,hown10,by simp[hMl],HM2⟩
   case measure=>simp[intOf];omega
  ·
   have hkk:k=L.length:=by omega
   subst hkk
   obtain ⟨A',c',hvv⟩:=own_form hown
   subst hvv
   have HM2:Hid (M=L.map (enF r)):=Lib.hid (by rw[HM.out,List.take_length])
   have hsz:=hgr.size
   have hown':wr.ownsRow (w.heap.size+1) 135 7 (.slice A' M.length c') M.length (M.flatMap enC):=by rw[hMl];exact hown
   have QS:=Lib.hid (sorte_any w.heap.size r.least (w.heap.size+1) c' A' M (w.alloc (.cells #[.string r.nm, .int .i64 r.kind, .int .i64 r.by_, .bool r.least] 46)) wr (by go_simp) (by simp) (by omega) hown' hgW (by simp))
   have QS2:=QS.out
   rw[show M.length=L.length from hMl] at QS2
   have HE:Hid ((sortR (fun a b=>ltV r.least a.2 b.2) M).map Prod.fst=sortR (fun a b=>ltV r.least (ofR r.by_ a.s.vals) (ofR r.by_ b.s.vals)) L):=Lib.hid (by rw[HM2.out];exact sort_en r L)
   obtain ⟨E,hE⟩:∃E,sortR (fun a b=>ltV r.least a.2 b.2) M=E:=⟨_,rfl⟩
   have hEl:E.length=L.length:=by rw[←hE,sortR_len,hMl]
   rw[hE] at QS2 HE
   have QS3:=Lib.hid QS2
   clear QS QS2 hE HM HM2 hown hown' hMl hgW
   go_wp2_with fail
   refine QS3.out.mono ?_;rintro e w2 ⟨rfl,hg2,hrd⟩
   have gw2:=Gr.trans (Gr.alloc (Gr.refl w) _) hg2
   rw[show L.length=E.length from hEl.symm] at hrd
   clear QS3 hg2 hFA hgr hsz
   go_wp2
   go_loopw [8,31] (fun v i wr=>∃(k:Nat) (N:List Sq),k≤L.length∧i= .int .i64 k∧Gr w wr∧Gr w2 wr∧wr.ownsRow w2.heap.size 34 5 v k (scells N)∧N.length=k∧Hid (N=(E.take k).map Prod.fst)) (fun _ i _=>L.length-(intOf i).toNat)
   case atStart=>exact ⟨0,[],Nat.zero_le _,rfl,gw2,Gr.refl _,World.ownsRow_nil _ _ _ _,rfl,Lib.hid rfl⟩
   case round=>
    obtain ⟨k,N,hk,rfl,hgr,hg2,hown,hNl,HN⟩:=hrel
    by_cases hlt:k<L.length
    ·
     have hlt':k<E.length:=by omega
     obtain ⟨ad,rfl,hb,hq⟩:=(hrd.gr hg2).en hlt'
     obtain ⟨e,he⟩:∃e,E[k]=e:=⟨_,rfl⟩
     obtain ⟨hx0,hx1,hx2,hx3,hx4,hx5,hx6⟩:=hq e he
     have HN2:Hid (N++[e.1]=(E.take (k+1)).map Prod.fst):=Lib.hid (by rw[List.take_succ_eq_append_getElem hlt',List.map_append,HN.out,he];rfl)
     have hrx:=Rl.new (W:=wr.alloc (.cells (enC e).toArray 135)) (B:=wr.heap.size+1) (by simp) 34 [e.1]
     have hv0:=(hown.alloc (.cells (enC e).toArray 135)).alloc (.cells (scells [e.1]).toArray 34)
     have hvl:=hown.lt
     have z5:=hgr.size
     have z6:=hg2.size
     clear he HN hown hq hb
     go_wp2_with
      (
       at_builtin
       go_loud (
       refine wpList_append_rd rfl (.tmp 35) (.tmp 38) 22 rfl w2.heap.size 34 i0 _ 5 64 Tryz.underlying22 hi0 hz0 hz1 hz2 rfl (by decide) _ k _ rfl hv0 (some ⟨wr.heap.size+1,0,none⟩) 1 _ (scells [e.1]) rfl hrx (scells_one _) (by unfold maxLen;omega) (by omega) (by simp;omega) ?_
       intro v' w7 hown7 hgr7 hat7))
     have hg7:Gr w w7:=Gr.grown (Gr.alloc (Gr.alloc hgr _) _) hgr7 (fun j hj=>by have:=(hvl j hj).1;have:=gw2.size;omega)
     have hg27:Gr w2 w7:=Gr.grown (Gr.alloc (Gr.alloc hg2 _) _) hgr7 (fun j hj=>(hvl j hj).1)
     have hown8:w7.ownsRow w2.heap.size 34 5 v' (k+1) (scells (N++[e.1])):=by rw[scells_append];exact hown7
     clear hv0 hvl hgr7 hat7 hrx hown7 hx0 hx1 hx2 hx3 hx4 hx5 hx6
     go_roundw
     case rel=>exact ⟨k+1,N++[e.1],by omega,by go_num,hg7,hg27,hown8,by simp[hNl],HN2⟩
     case measure=>simp[intOf];omega
    ·
     have hkk:k=L.length:=by omega
     subst hkk
     obtain ⟨A2,c2,hvv⟩:=own_form hown
     subst hvv
     have hcap:=own_cap hown
     have HM2:Hid (N=sortR (fun a b=>ltV r.least (ofR r.by_ a.s.vals) (ofR r.by_ b.s.vals)) L):=Lib.hid (by rw[HN.out,←hEl,List.take_length,HE.out])
     have hRl:Rl wr A2 N:=by have h:=Rd.own hown;unfold Rl;rw[hNl];exact h
     clear HN hown HE
     go_wp2
     go_ret
     exact ⟨A2,c2,ret_slice (by rw[←HM2.out,hNl]),by rw[←HM2.out,hNl];exact hcap,by rw[←HM2.out];exact hRl,hgr⟩
end Go.Proofs.YtnphdacibageiaaGreat
