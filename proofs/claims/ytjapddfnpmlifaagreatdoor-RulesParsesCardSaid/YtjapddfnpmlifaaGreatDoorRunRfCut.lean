import Derived.Test.YtjapddfnpmlifaaGreatDoorRunRfPairs
set_option linter.all false
set_option maxRecDepth 1000000
set_option maxHeartbeats 12800000
namespace Go.Proofs.YtjapddfnpmlifaaGreatDoor
open Go.RowKit
def RetT (w:World) (R:Nat) (s:ByteArray) (n d e g:Nat) (A:Option Addr) (code res:List In) (x:Ending) (w':World):Prop:=
 ∃A7 c7 A',x= .returned (.slice A7 res.length c7)/\Ri w' A7 res/\RfW w' R s n d e g A' code/\WX R w (blk A) w' (blk A')/\∀ad,A7=some ad->ad.block≠R/\blk A'≠some ad.block
theorem Sm.drop {l:List In} (h:Sm l) (m:Nat):Sm (l.drop m):=λv hv=>h v (List.mem_of_mem_drop hv)
theorem RfC.cutd {w w7 w9:World} {R n d e g c c9 m:Nat} {s:ByteArray} {A A9:Option Addr} {code:List In} {o:Obj} (h:RfC w R s n d e g A code c) (hm:m<=code.length) (g7:Gr w w7) (own9:w9.ownsRow (R+1) 143 4 (.slice A9 m c9) m (icells (code.take m))) (hgr:(w7.alloc o).grownBy w9 (some w7.heap.size)) (hob:blk A9=some w7.heap.size\/blk A9=some (w7.alloc o).heap.size) :
  RfW (w9.setCell ⟨R,5,none⟩ (.slice A9 m c9)) R s n d e g A9 (code.take m)/\WX R w (blk A) (w9.setCell ⟨R,5,none⟩ (.slice A9 m c9)) (blk A9):=by
 have hlt:=h.lt;have hz7:=g7.size;have g9:Gr w w9:=Below.grown (g7.alloc o) hgr (by have:=(g7.alloc o).size;exact this) (λj hj=>by injection hj with hj;omega);have hR9:w9.heap[R]?=w.heap[R]?:=Below.block g9 R hlt;have hx:∀i,w9.cell? ⟨R,i,none⟩=w.cell? ⟨R,i,none⟩:=λi=>World.cell?_of_block (a:=⟨R,i,none⟩) hR9;have hy:∀i,w9.frozen? ⟨R,i,none⟩=w.frozen? ⟨R,i,none⟩:=λi=>World.frozen?_of_block (a:=⟨R,i,none⟩) hR9;have hz9:R<w9.heap.size:=Nat.lt_of_lt_of_le hlt g9.size;have hlen:(code.take m).length=m:=by rw[List.length_take];omega
 have o:∀j,j≠5->(w9.setCell ⟨R,5,none⟩ (.slice A9 m c9)).cell? ⟨R,j,none⟩=w9.cell? ⟨R,j,none⟩:=λj hj=>World.cell?_setCell_other w9 ⟨R,5,none⟩ ⟨R,j,none⟩ _ (by first|(simp;done)|(simp;omega));have k5:=(hx 5).trans h.c5;have k6:=(hy 5).trans h.f5;refine ⟨⟨c9,(o 0 (by decide)).trans ((hx 0).trans h.c0),(o 1 (by decide)).trans ((hx 1).trans h.c1),(o 2 (by decide)).trans ((hx 2).trans h.c2),(o 3 (by decide)).trans ((hx 3).trans h.c3),(o 4 (by decide)).trans ((hx 4).trans h.c4),?_,by rw[World.frozen?_setCell];exact (hy 1).trans h.f1,by rw[World.frozen?_setCell];exact (hy 2).trans h.f2,by rw[World.frozen?_setCell];exact (hy 3).trans h.f3,by rw[World.frozen?_setCell];exact (hy 4).trans h.f4,by rw[World.frozen?_setCell];exact (hy 5).trans h.f5,?_,by simpa using hz9⟩,?_⟩
 ·rw[hlen];clear hx hy o hgr hob own9 hR9;go_simp
 ·rw[hlen];exact own_setX own9 (p:=⟨R,5,none⟩) (Nat.lt_succ_self _) _
 ·have x1:WX R w (blk A) w9 (blk A9):=⟨g9.os,g9.tape,g9.output,g9.size,λk hk _ _=>Below.block g9 k hk,λk hk=>by
   rcases hob with e|e<;>(rw[e] at hk;injection hk with hk;right;first|omega|(simp at hk;omega))⟩
  exact x1.set (p:=⟨R,5,none⟩) (.inl rfl) _
theorem Ri.cutd {w7 w9:World} {R:Nat} {A7 A9:Option Addr} {l:List In} {o:Obj} {u:Value} (h:Ri w7 A7 l) (hR:R<w7.heap.size) (hn:∀ad,A7=some ad->ad.block≠R/\ad.block<w7.heap.size) (hgr:(w7.alloc o).grownBy w9 (some w7.heap.size)) (hob:blk A9=some w7.heap.size\/blk A9=some (w7.alloc o).heap.size) :
  Ri (w9.setCell ⟨R,5,none⟩ u) A7 l/\∀ad,A7=some ad->ad.block≠R/\blk A9≠some ad.block:=by
 have g9:Gr w7 w9:=Below.grown ((Gr.refl w7).alloc o) hgr (by have:=((Gr.refl w7).alloc o).size;exact this) (λj hj=>by injection hj with hj;omega);refine ⟨⟨h.1,λh0=>?_⟩,λad ha=>⟨(hn ad ha).1,λe=>?_⟩⟩
 ·obtain ⟨ad,e,hb,hc⟩:=h.2 h0;refine ⟨ad,e,by simpa using Nat.lt_of_lt_of_le hb g9.size,λj v hv=>?_⟩;have h1:=hc j v hv;have hne:=(hn ad e).1;rw[World.cell?_setCell_other w9 ⟨R,5,none⟩ (ad.add j) _ (λe2=>hne (by rw[<-add_blk ad j,<-e2]))];exact (Below.cell g9 (by rw[add_blk];exact hb)).trans h1
 ·have:=(hn ad ha).2;rcases hob with e2|e2<;>(rw[e2] at e;injection e with e;first|omega|(simp at e;omega))
theorem rcut_any {w:World} {R n d e g:Nat} {s:ByteArray} {A:Option Addr} {code:List In} (h:RfW w R s n d e g A code) (m:Nat) (hm0:0<code.length) (hm:m<=code.length) (hs:Sm code) (hb:code.length<=4000) :
  Calls Tryz.prog 96 #[.pointer (some ⟨R,0,none⟩), .int .i64 m] w (RetT w R s n d e g A (code.take m) (mvL (-(m:Int)) (code.drop m))):=by
 obtain ⟨i0,hi0,hz0,hz1,hz2⟩:=info_parts info_rinst;obtain ⟨c,h⟩:=h;have own0:=h.own;obtain ⟨q,rfl⟩:∃q,A=some ⟨q,0,none⟩:=by
  obtain ⟨_,⟨_,h0⟩|⟨q,cap,cur,hv,_⟩⟩:=own0
  ·omega
  ·injection hv with hv1;exact ⟨q,hv1⟩
 have hlc:code.length<=c:=by
  obtain ⟨_,⟨_,h0⟩|⟨q',cap,cur,hv,_,_,h2,_⟩⟩:=own0
  ·omega
  ·injection hv with _ _ hv3;omega
 have hcm:c<=9223372036854775807:=by
  obtain ⟨_,⟨_,h0⟩|⟨q',cap,cur,hv,_,_,_,h3,_⟩⟩:=own0
  ·omega
  ·injection hv with _ _ hv3;unfold maxLen at h3;omega
 have hri:Ri w (some ⟨q,0,none⟩) code:=Rd.own own0;have hd:=hri.drop (c:=c) hm hlc;have ht:=hri.takes hm;obtain ⟨L,hL⟩:∃L,L=code.length:=⟨_,rfl⟩
 have c5:=h.c5;have f5:=h.f5;have hlt:=h.lt;have hvl:=own0.lt q rfl;have Hh:=Lib.hid h;have hdl:(code.drop m).length=L-m:=by rw[List.length_drop,<-hL]
 rw[<-hL] at hm0 hm hb hlc c5 hd;have HL:=Lib.hid (And.intro hL (And.intro hdl hs));have Hd:=Lib.hid (And.intro hd (And.intro ht hri));have hLi:(L:Int)<=4000:=by omega
 have hmi:(m:Int)<=L:=by omega
 have hlci:(L:Int)<=c:=by omega
 clear h own0 hri hd ht hL hdl hs;go_enter Tryz.func96,Tryz.ntmps96;go_upto_region 1 with (fail)
 by_cases hcm2:c=m
 ·have hmL:m=L:=by omega
  subst hmL;subst hcm2;have HC:∀W,Gr w W->Calls Tryz.prog 126 #[.slice (some ⟨q,0,none⟩) 0 0, .int .i64 (-(c:Int))] W (RetM W (mvL (-(c:Int)) (code.drop c))):=λW gW=>by
   have hnil:code.drop c=[]:=List.drop_eq_nil_of_le (by rw[<-HL.out.1];exact Nat.le_refl _);rw[hnil];exact moved_any W (some ⟨q,0,none⟩) 0 [] ⟨rfl,λh=>absurd h (by simp)⟩ (by simp) (λv hv=>by cases hv) _ (by omega) (by omega)
  have HC2:=Lib.hid HC;clear HC;go_upto_region 2 with (go_at_call 126;refine (HC2.out _ (Gr.refl _)).mono ?_;rintro x w7 ⟨A7,c7,rfl,hr7,hg7,hn7⟩)
  have own7:(w7.alloc (.cells #[] 143)).ownsRow (R+1) 143 4 (.slice (some ⟨w7.heap.size,0,none⟩) 0 0) 0 []:=World.ownsRow_made w7 #[] 0 (by have:=hg7.size;omega) (by decide) rfl;have ht7:Rd (w7.alloc (.cells #[] 143)) 4 (some ⟨q,0,none⟩) c (icells (code.take c)):=(Hd.out.2.1.gr hg7).gr (Gr.alloc (Gr.refl _) _);have c57:=(hg7.cell (p:=⟨R,5,none⟩) hlt).trans c5;have f57:=(hg7.frozen (p:=⟨R,5,none⟩) hlt).trans f5;have hz7:R<w7.heap.size:=Nat.lt_of_lt_of_le hlt hg7.size;have H7:=Lib.hid (And.intro hr7 (And.intro hg7 hn7));have hgz:w.heap.size<=w7.heap.size:=hg7.size;clear hr7 hg7 hn7 c5 f5;go_wp2_with (at_builtin;refine wpList_append_rd rfl (.tmp 17) (.tmp 24) 96 rfl (R+1) 143 i0 _ 4 40 Tryz.underlying96 hi0 hz0 hz1 hz2 rfl (by decide) _ 0 _ rfl own7 (some ⟨q,0,none⟩) c _ (icells (code.take c)) rfl ht7 (icells_one _) (by unfold maxLen;omega) (by omega) (by simp;omega) ?_;intro v9 w9 own9 hgr9 hob9;obtain ⟨A9,c9,hv9⟩:=own_form own9;subst hv9;rw[Nat.zero_add,List.nil_append] at own9;have hR9:w9.heap[R]?=w7.heap[R]?:=(hgr9.block R (by simp;omega) (by simp[Value.ownBlock,Act.eval];omega)).trans (Below.block (Gr.alloc (Gr.refl w7) _) R hz7);have c59:=(World.cell?_of_block (a:=⟨R,5,none⟩) hR9).trans c57;have f59:=(World.frozen?_of_block (a:=⟨R,5,none⟩) hR9).trans f57;have hz9:R<w9.heap.size:=Nat.lt_of_lt_of_le (by simp;omega:R<(w7.alloc (.cells #[] 143)).heap.size) hgr9.size;have H9:=Lib.hid (And.intro own9 (And.intro hgr9 (And.intro hob9 hR9)));clear own9 hgr9 hob9 hR9 c57 f57);go_ret;obtain ⟨own9,hgr9,hob9, -⟩:=H9.out;obtain ⟨hr7,hg7,hn7⟩:=H7.out;have hx:∀(A:Option Addr) (n c:Nat),(Value.slice A n c).ownBlock=blk A:=λA n c=>by cases A<;>rfl
  have hgr:(w7.alloc (.cells #[] 143)).grownBy w9 (some w7.heap.size):=hgr9;have hob:blk A9=some w7.heap.size\/blk A9=some (w7.alloc (.cells #[] 143)).heap.size:=by rw[<-hx A9 (0+c) c9];exact hob9
  obtain ⟨f1,f2⟩:=Hh.out.cutd (m:=c) (by rw[<-HL.out.1];omega) hg7 own9 hgr hob;obtain ⟨f3,f4⟩:=hr7.cutd (u:= .slice A9 c c9) hz7 (λad ha=>by have:=hn7 ad ha;exact ⟨by omega,this.2⟩) hgr hob;exact ⟨A7,c7,A9,rfl,f3,f1,f2,f4⟩
 ·have HC:∀W,Gr w W->Calls Tryz.prog 126 #[.slice (some ⟨q,m*4,none⟩) (L-m) (c-m), .int .i64 (-(m:Int))] W (RetM W (mvL (-(m:Int)) (code.drop m))):=λW gW=>by
   have h1:=Hd.out.1;rw[if_neg hcm2] at h1;have e1:(some (⟨q,0,none⟩:Addr)).map (λad=>ad.add (m*4))=some ⟨q,m*4,none⟩:=by
    simp only[Option.map_some,Addr.add];split
    ·rename_i h0;rw[h0]
    ·rw[Nat.zero_add]
   rw[e1] at h1;have h2:Ri w (some ⟨q,m*4,none⟩) (code.drop m):=by unfold Ri;rw[HL.out.2.1];exact h1
   have:=moved_any W (some ⟨q,m*4,none⟩) (c-m) (code.drop m) (h2.gr gW) (by rw[HL.out.2.1];omega) (HL.out.2.2.drop m) (-(m:Int)) (by omega) (by omega);rw[HL.out.2.1] at this;exact this
  have HC2:=Lib.hid HC;have Hcm:=Lib.hid hcm2;clear HC;go_upto_region 2 with (go_at_call 126;refine (HC2.out _ (Gr.refl _)).mono ?_;rintro x w7 ⟨A7,c7,rfl,hr7,hg7,hn7⟩)
  clear hcm2;have own7:(w7.alloc (.cells #[] 143)).ownsRow (R+1) 143 4 (.slice (some ⟨w7.heap.size,0,none⟩) 0 0) 0 []:=World.ownsRow_made w7 #[] 0 (by have:=hg7.size;omega) (by decide) rfl;have ht7:Rd (w7.alloc (.cells #[] 143)) 4 (some ⟨q,0,none⟩) m (icells (code.take m)):=(Hd.out.2.1.gr hg7).gr (Gr.alloc (Gr.refl _) _);have c57:=(hg7.cell (p:=⟨R,5,none⟩) hlt).trans c5;have f57:=(hg7.frozen (p:=⟨R,5,none⟩) hlt).trans f5;have hz7:R<w7.heap.size:=Nat.lt_of_lt_of_le hlt hg7.size;have H7:=Lib.hid (And.intro hr7 (And.intro hg7 hn7));have hgz:w.heap.size<=w7.heap.size:=hg7.size;clear hr7 hg7 hn7 c5 f5;go_wp2_with (at_builtin;refine wpList_append_rd rfl (.tmp 17) (.tmp 24) 96 rfl (R+1) 143 i0 _ 4 40 Tryz.underlying96 hi0 hz0 hz1 hz2 rfl (by decide) _ 0 _ rfl own7 (some ⟨q,0,none⟩) m _ (icells (code.take m)) rfl ht7 (icells_one _) (by unfold maxLen;omega) (by omega) (by simp;omega) ?_;intro v9 w9 own9 hgr9 hob9;obtain ⟨A9,c9,hv9⟩:=own_form own9;subst hv9;rw[Nat.zero_add,List.nil_append] at own9;have hR9:w9.heap[R]?=w7.heap[R]?:=(hgr9.block R (by simp;omega) (by simp[Value.ownBlock,Act.eval];omega)).trans (Below.block (Gr.alloc (Gr.refl w7) _) R hz7);have c59:=(World.cell?_of_block (a:=⟨R,5,none⟩) hR9).trans c57;have f59:=(World.frozen?_of_block (a:=⟨R,5,none⟩) hR9).trans f57;have hz9:R<w9.heap.size:=Nat.lt_of_lt_of_le (by simp;omega:R<(w7.alloc (.cells #[] 143)).heap.size) hgr9.size;have H9:=Lib.hid (And.intro own9 (And.intro hgr9 (And.intro hob9 hR9)));clear own9 hgr9 hob9 hR9 c57 f57);go_ret;obtain ⟨own9,hgr9,hob9, -⟩:=H9.out;obtain ⟨hr7,hg7,hn7⟩:=H7.out;have hx:∀(A:Option Addr) (n c:Nat),(Value.slice A n c).ownBlock=blk A:=λA n c=>by cases A<;>rfl
  have hgr:(w7.alloc (.cells #[] 143)).grownBy w9 (some w7.heap.size):=hgr9;have hob:blk A9=some w7.heap.size\/blk A9=some (w7.alloc (.cells #[] 143)).heap.size:=by rw[<-hx A9 (0+m) c9];exact hob9
  obtain ⟨f1,f2⟩:=Hh.out.cutd (m:=m) (by rw[<-HL.out.1];omega) hg7 own9 hgr hob;obtain ⟨f3,f4⟩:=hr7.cutd (u:= .slice A9 m c9) hz7 (λad ha=>by have:=hn7 ad ha;exact ⟨by omega,this.2⟩) hgr hob;exact ⟨A7,c7,A9,rfl,f3,f1,f2,f4⟩
section
variable {P:Program}
theorem exec_load_row {o:Oper} {ev:Operand->Value} {W:World} (ty:TypeId) (x:Operand) (ho:o.op= .load ty x)
  (g:Nat) (hx:ev x= .pointer (some ⟨g,0,none⟩)) {t:TypeId} {cs:Array Value} {fr:Nat×Nat} {d:TypeDesc} (hg:W.heap[g]?=some (.cells cs t fr))
  (hu:P.underlying ty=some d) (hd:(match d with| .struct _| .array _ _=>true|_=>false)=true) (hi:(P.info? ty).map (·.size)=some cs.size):(execOp ev o).run P W= .ok (.value (.agg cs)) W:=by
 unfold execOp;simp only[ho,hx,Instr.loadAt,Instr.sureAddr,Sem.run_bind,Sem.run_pure,Result.andThen_ok,run_loadVar_row W g t ty cs fr d hg hu hd hi]
end
theorem res_arr3 (fn:Func) (a p q:Tmp) (h:fn.results= #[.tmp a, .cell p 215, .tmp q]) (tmps:Array Value) (w:World) (g:Nat) (f:Bs) (x b:Value) (ha:tmps.getD a undef=x) (hp:tmps.getD p undef= .pointer (some ⟨g,0,none⟩)) (hq:tmps.getD q undef=b) (hs:SetQ w g f) :
  (results fn tmps).run Tryz.prog w= .ok (.tuple #[x, .agg (bsA f),b]) w:=by
 have ha':tmps[a]?.getD undef=x:=by simpa using ha
 have hp':tmps[p]?.getD undef= .pointer (some ⟨g,0,none⟩):=by simpa using hp
 have hq':tmps[q]?.getD undef=b:=by simpa using hq
 simp[results,h,ha',hp',hq',asAddr,run_loadVar_row w g _ 215 (bsA f) (0,0) _ hs und_arr rfl (size_bsQ _)]
theorem SetQ.rowother {w:World} {g g':Nat} {f:Bs} (h:SetQ w g f) (hn:g≠g') (cs:Array Value):SetQ (w.setRow g' cs) g f:=(setRow_other w g' g cs (by omega)).trans h
theorem isWord_aln (c:Nat):isWordB c=alnB c:=by
 rw[Bool.eq_iff_iff];unfold isWordB;rw[Bool.and_eq_true,wordB_iff,aln_iff];simp;omega
def RetX (w:World) (R:Nat) (s:ByteArray) (n d e g:Nat) (A:Option Addr) (code:List In) (c:Nat) (f:Bs) (ok:Bool) (x:Ending) (w':World):Prop:=
 x= .returned (.tuple #[.int .u8 c, .agg (bsA f), .bool ok])/\RfW w' R s n d e g A code/\GX R w w'
theorem RfW.row' {w:World} {R n d e g k:Nat} {s:ByteArray} {A:Option Addr} {code:List In} (h:RfW w R s n d e g A code) {cs:Array Value} (hR:k≠R) (hk:blk A≠some k):RfW (w.setRow k cs) R s n d e g A code:=
 h.kept (by simp) (setRow_other w k R cs (by omega)) λj hj=>setRow_other w k j cs (λe=>hk (by rw[hj];congr 1))
theorem stroke_end {w:World} {R n d e g:Nat} {s:ByteArray} {A:Option Addr} {code:List In} (h:RfW w R s n d e g A code) (hs:(s.size:Int)<=4096) (hn:n+1=s.size):Calls Tryz.prog 160 #[.pointer (some ⟨R,0,none⟩)] w (RetX w R s n d e g A code 0 noB false):=by
 obtain ⟨hz0,hsz0⟩:=zero_of_info info_arr;have g0:Gr w ((w.alloc (Obj.cells (bsA noB) 215)).alloc (Obj.cells (bsA noB) 215)):=gq;have s0:SetQ ((w.alloc (Obj.cells (bsA noB) 215)).alloc (Obj.cells (bsA noB) 215)) w.heap.size noB:=(SetQ.new w noB).gr (Gr.alloc (Gr.refl _) _);have s1:SetQ ((w.alloc (Obj.cells (bsA noB) 215)).alloc (Obj.cells (bsA noB) 215)) (w.heap.size+1) noB:=by
  have:=SetQ.new (w.alloc (Obj.cells (bsA noB) 215)) noB;simpa using this
 have hlt:=h.lt;have hn1:(s.size:Int)<=(n:Int)+1:=by omega
 have hn2:s.size<=n+1:=by omega
 have hn3:(n:Int)<=4096:=by omega
 have hw1:IntKind.i64.wrap ((n:Int)+1)=(n:Int)+1:=IntWalk.i64_in _ (by omega);clear hn;go_enter Tryz.func160,Tryz.ntmps160;go_upto_region 2 with (fail)
 generalize ((w.alloc (Obj.cells (bsA noB) 215)).alloc (Obj.cells (bsA noB) 215))=w0 at g0 s0 s1 ⊢;clear hz0 hsz0;have h0:=h.gr g0;have hz:R<w0.heap.size:=h0.lt;obtain ⟨cc,hc⟩:=id h0;obtain ⟨c0,c1⟩:=And.intro hc.c0 hc.c1;have hzw:w.heap.size+1<w0.heap.size:=s1.lt;clear hc;refine region_Q (by kernel_rfl) (by kernel_rfl) ?_;(iterate 3 refine qv ?_);refine qv ?_ (h:=λW hW=>by have q1:=bc hW hz c1;go_simp<;>rfl);(iterate 4 refine qv ?_);refine qv ?_ (h:=λW hW=>by have q0:=bc hW hz c0;go_simp<;>rfl);(iterate 2 refine qv ?_);refine wpQuiet_nil ?_;intro w1 hw1;have s01:=s0.gr hw1;have s11:=s1.gr hw1;have h1:=h0.gr hw1;have hrow:=h.row;have hz1:=hw1.size;have G1:=g0.trans hw1;clear c0 c1 s0 s1;go_upto_region 3 with (fail)
 refine wp_region_Z 3 (λW=>SetQ W (w.heap.size+1) noB) (by kernel_rfl) ?_;have hS0a:SetQ w1.drew (w.heap.size+1) noB:=s11;have hDa:SetQ w1.drew w.heap.size noB:=s01;refine wpAnyZ_take (i:=0) (v:= .agg (bsA noB)) rfl (by kernel_rfl) (λ_ _ _ h=>h) (by rfl) (λW hS=>?h8) hS0a ?r8;case h8=>
  simp only[List.getElem_toArray,List.getElem_cons_succ,List.getElem_cons_zero];exact exec_load_row _ _ rfl (w.heap.size+1) rfl hS und_arr rfl (size_bsQ _)
 simp only[Act.put,List.getElem_toArray,List.getElem_cons_succ,List.getElem_cons_zero,List.setIfInBounds_toArray,List.set_cons_zero,List.set_cons_succ];refine zu 1 hS0a ?_;refine zs 2 rfl (λK hK=>?_);simp only[Gl];refine wp_store_row _ _ _ rfl w.heap.size (bsA noB) rfl rfl _ _ hDa (size_bsQ _) (by simp only[bsA_size]) (bsA_one _) ?_;have hS1a:SetQ (w1.drew.setRow w.heap.size (bsA noB)) (w.heap.size+1) noB:=SetQ.rowother hS0a (by omega) _;refine hK.out _ _ (λhnz=>?zsa2) (λ_=>?zra2);case zsa2=>exact hS1a
 clear hK K;try simp only[Pu,Gl]
 refine zs 3 rfl (λK hK=>?_);simp only[Gl];go_simp;refine hK.out _ _ (λhnz=>?zsa3) (λ_=>?zra3);case zsa3=>exact absurd rfl hnz
 clear hK K;try simp only[Pu,Gl]
 refine wpAnyZ_done (by kernel_rfl) ?_ _;go_wp2;exact bodyPost_ret (v:= .tuple #[.int .u8 0, .agg (bsA noB), .bool false]) (res_arr3 _ 2 3 4 (by kernel_rfl) _ _ w.heap.size _ _ _ rfl rfl rfl (SetQ.row hDa)) rfl ⟨rfl,(h1.gr (Gr.drew (Gr.refl _))).row' (by omega) (λe=>by have:=(hrow _ e).2;omega),GX.of_gr (Gr.setRow G1.drew (Nat.le_refl _) _)⟩
theorem stroke_named {w:World} {R n d e g:Nat} {s:ByteArray} {A:Option Addr} {code:List In} (h:RfW w R s n d e g A code) (hs:(s.size:Int)<=4096) (hn:n+1<s.size) {F:Bs} (hf:namedB (s[n+1].toNat)=some F):Calls Tryz.prog 160 #[.pointer (some ⟨R,0,none⟩)] w (RetX w R s (n+2) d e g A code 0 F true):=by
 obtain ⟨hz0,hsz0⟩:=zero_of_info info_arr;have g0:Gr w ((w.alloc (Obj.cells (bsA noB) 215)).alloc (Obj.cells (bsA noB) 215)):=gq;have s0:SetQ ((w.alloc (Obj.cells (bsA noB) 215)).alloc (Obj.cells (bsA noB) 215)) w.heap.size noB:=(SetQ.new w noB).gr (Gr.alloc (Gr.refl _) _);have s1:SetQ ((w.alloc (Obj.cells (bsA noB) 215)).alloc (Obj.cells (bsA noB) 215)) (w.heap.size+1) noB:=by
  have:=SetQ.new (w.alloc (Obj.cells (bsA noB) 215)) noB;simpa using this
 have hlt:=h.lt;have hn1:¬(s.size:Int)<=(n:Int)+1:=by omega
 have hn2:¬s.size<=n+1:=by omega
 have hn3:(n:Int)+1<(s.size:Int):=by omega
 have hn4:(n:Int)<=4096:=by omega
 have hw1:IntKind.i64.wrap ((n:Int)+1)=(n:Int)+1:=IntWalk.i64_in _ (by omega);obtain ⟨x,hx⟩:∃x,x=s[n+1].toNat:=⟨_,rfl⟩
 rw[<-hx] at hf ;have hx256:x<256:=by rw[hx];exact (s[n+1]).toNat_lt
 have HX:=Lib.hid hx;have HS6:=λw=>six_some x hf w;have HS6':=Lib.hid HS6;have HZ:=Lib.hid (And.intro hz0 hsz0);clear hx hf HS6;go_enter Tryz.func160,Tryz.ntmps160;go_upto_region 2 with (fail)
 generalize ((w.alloc (Obj.cells (bsA noB) 215)).alloc (Obj.cells (bsA noB) 215))=w0 at g0 s0 s1 ⊢;clear hz0 hsz0;have h0:=h.gr g0;have hz:R<w0.heap.size:=h0.lt;obtain ⟨cc,hc⟩:=id h0;obtain ⟨c0,c1⟩:=And.intro hc.c0 hc.c1;have hzw:w.heap.size+1<w0.heap.size:=s1.lt;clear hc;refine region_Q (by kernel_rfl) (by kernel_rfl) ?_;(iterate 3 refine qv ?_);refine qv ?_ (h:=λW hW=>by have q1:=bc hW hz c1;go_simp<;>rfl);(iterate 4 refine qv ?_);refine qv ?_ (h:=λW hW=>by have q0:=bc hW hz c0;go_simp<;>rfl);(iterate 2 refine qv ?_);refine wpQuiet_nil ?_;intro w1 hw1;have s01:=s0.gr hw1;have h1:=h0.gr hw1;have s11:=s1.gr hw1;have G1:=g0.trans hw1;have hz1:=hw1.size;have hzR1:R<w1.heap.size:=h1.lt;obtain ⟨cc1,hc1⟩:=id h1;clear c0 c1 s0 s1 h0 hz;obtain ⟨c0,c1⟩:=And.intro hc1.c0 hc1.c1;clear hc1 hw1;go_upto_region 4 with (fail)
 refine region_Q (by kernel_rfl) (by kernel_rfl) ?_;(iterate 3 refine qv ?_);refine qv ?_ (h:=λW hW=>by have q0:=bc hW hzR1 c0;go_simp<;>rfl);(iterate 3 refine qv ?_);refine qv ?_ (h:=λW hW=>by have q1:=bc hW hzR1 c1;go_simp<;>rfl);(iterate 3 refine qv ?_);refine wpQuiet_nil ?_;intro w2 hw2;rw[<-HX.out];have s02:=s01.gr hw2;have s12:=s11.gr hw2;have h2:=h1.gr hw2;have G2:=G1.trans hw2;have hz2:=hw2.size;have hzR2:R<w2.heap.size:=h2.lt;have hrow2:=h2.row;obtain ⟨cc2,hc2⟩:=id h2;clear c0 c1 s01 s11 h1 hzR1;obtain ⟨c1,f1⟩:=And.intro hc2.c1 hc2.f1;clear hc2;have h3:RfW (w2.setCell ⟨R,1,none⟩ (.int .i64 ((n:Int)+2))) R s (n+2) d e g A code:=by
  have t:=h2.setAt (n+2)
  rwa [show ((n+2:Nat):Int)=(n:Int)+2 by omega] at t
 have s03:=s02.other (p:=⟨R,1,none⟩) (by show w.heap.size≠R;omega) (.int .i64 ((n:Int)+2));have s13:=s12.other (p:=⟨R,1,none⟩) (by show w.heap.size+1≠R;omega) (.int .i64 ((n:Int)+2));have G3:GX R w (w2.setCell ⟨R,1,none⟩ (.int .i64 ((n:Int)+2))):=(GX.of_gr (R:=R) G2).setCell (p:=⟨R,1,none⟩) (.inl rfl) _;have H3:=Lib.hid (And.intro h3 (And.intro s03 (And.intro s13 G3)));clear h3 s03 s13 G3 s02 s12 G2 hrow2 h2;obtain ⟨hz0,hsz0⟩:=HZ.out;go_upto_region 7 with (first
  | (go_at_call 170;refine (HS6'.out _).mono ?_;rintro e w4 ⟨rfl,hg4⟩)
  | (refine wpList_store_row rfl 215 (.tmp 7) (.tmp 42) rfl w4.heap.size (bsA F) rfl rfl _ _ (SetQ.new w4 noB) (size_bsQ _) (by simp only[bsA_size]) (bsA_one _) ?_))
 clear hz0 hsz0 c1 f1;obtain ⟨h3,s03,s13,G3⟩:=H3.out;have hz3:(w2.setCell ⟨R,1,none⟩ (.int .i64 ((n:Int)+2))).heap.size=w2.heap.size:=by simp
 have hz4:=hg4.size;rw[hz3] at hz4;have S5:SetQ ((w4.alloc (.cells (bsA noB) 215)).setRow w4.heap.size (bsA F)) w4.heap.size F:=SetQ.row (SetQ.new w4 noB);have s05:SetQ ((w4.alloc (.cells (bsA noB) 215)).setRow w4.heap.size (bsA F)) w.heap.size noB:=SetQ.rowother ((s03.gr hg4).gr (Gr.alloc (Gr.refl _) _)) (by omega) _;have s15:SetQ ((w4.alloc (.cells (bsA noB) 215)).setRow w4.heap.size (bsA F)) (w.heap.size+1) noB:=SetQ.rowother ((s13.gr hg4).gr (Gr.alloc (Gr.refl _) _)) (by omega) _;have hrow3:=h3.row;have h5:RfW ((w4.alloc (.cells (bsA noB) 215)).setRow w4.heap.size (bsA F)) R s (n+2) d e g A code:=((h3.gr hg4).gr (Gr.alloc (Gr.refl _) _)).row' (by omega) (λe=>by have:=(hrow3 _ e).2;rw[hz3] at this;omega);have G5:GX R w ((w4.alloc (.cells (bsA noB) 215)).setRow w4.heap.size (bsA F)):=((G3.trans (GX.of_gr hg4)).alloc _).setRow (.inr (by omega)) _;have hz5:((w4.alloc (.cells (bsA noB) 215)).setRow w4.heap.size (bsA F)).heap.size=w4.heap.size+1:=by simp
 generalize ((w4.alloc (.cells (bsA noB) 215)).setRow w4.heap.size (bsA F))=w5 at S5 s05 s15 h5 G5 hz5 ⊢;clear h3 s03 s13 G3 H3 hz3 hg4;have hrow5:∀k,blk A=some k->k<w.heap.size:=λk hk=>(h.row k hk).2;go_upto_region 8 with (fail)
 refine wp_region_Z 3 (λW=>SetQ W w4.heap.size F) (by kernel_rfl) ?_;have hS0b:SetQ w5.drew w4.heap.size F:=S5;have hDb:SetQ w5.drew w.heap.size noB:=s05;refine wpAnyZ_take (i:=0) (v:= .agg (bsA F)) rfl (by kernel_rfl) (λ_ _ _ h=>h) (by rfl) (λW hS=>?h10) hS0b ?r10;case h10=>
  simp only[List.getElem_toArray,List.getElem_cons_succ,List.getElem_cons_zero];exact exec_load_row _ _ rfl w4.heap.size rfl hS und_arr rfl (size_bsQ _)
 simp only[Act.put,List.getElem_toArray,List.getElem_cons_succ,List.getElem_cons_zero,List.setIfInBounds_toArray,List.set_cons_zero,List.set_cons_succ];refine zu 1 hS0b ?_;refine zs 2 rfl (λK hK=>?_);simp only[Gl];refine wp_store_row _ _ _ rfl w.heap.size (bsA F) rfl rfl _ _ hDb (size_bsQ _) (by simp only[bsA_size]) (bsA_one _) ?_;have hS1b:SetQ (w5.drew.setRow w.heap.size (bsA F)) w4.heap.size F:=SetQ.rowother hS0b (by omega) _;refine hK.out _ _ (λhnz=>?zsb2) (λ_=>?zrb2);case zsb2=>exact hS1b
 clear hK K;try simp only[Pu,Gl]
 refine zs 3 rfl (λK hK=>?_);simp only[Gl];go_simp;refine hK.out _ _ (λhnz=>?zsb3) (λ_=>?zrb3);case zsb3=>exact absurd rfl hnz
 clear hK K;try simp only[Pu,Gl]
 refine wpAnyZ_done (by kernel_rfl) ?_ _;go_wp2;exact bodyPost_ret (v:= .tuple #[.int .u8 0, .agg (bsA F), .bool true]) (res_arr3 _ 2 3 4 (by kernel_rfl) _ _ w.heap.size _ _ _ rfl rfl rfl (SetQ.row hDb)) rfl ⟨rfl,(h5.gr (Gr.drew (Gr.refl _))).row' (by omega) (λe=>by have:=hrow5 _ e;omega),(G5.drew).setRow (.inr (Nat.le_refl _)) _⟩
theorem stroke_byte {w:World} {R n d e g:Nat} {s:ByteArray} {A:Option Addr} {code:List In} (h:RfW w R s n d e g A code) (hs:(s.size:Int)<=4096) (hn:n+1<s.size) (hf:namedB (s[n+1].toNat)=none):Calls Tryz.prog 160 #[.pointer (some ⟨R,0,none⟩)] w (RetX w R s (n+2) d e g A code (s[n+1].toNat) noB (!alnB (s[n+1].toNat))):=by
 obtain ⟨hz0,hsz0⟩:=zero_of_info info_arr;have g0:Gr w ((w.alloc (Obj.cells (bsA noB) 215)).alloc (Obj.cells (bsA noB) 215)):=gq;have s0:SetQ ((w.alloc (Obj.cells (bsA noB) 215)).alloc (Obj.cells (bsA noB) 215)) w.heap.size noB:=(SetQ.new w noB).gr (Gr.alloc (Gr.refl _) _);have s1:SetQ ((w.alloc (Obj.cells (bsA noB) 215)).alloc (Obj.cells (bsA noB) 215)) (w.heap.size+1) noB:=by
  have:=SetQ.new (w.alloc (Obj.cells (bsA noB) 215)) noB;simpa using this
 have hlt:=h.lt;have hn1:¬(s.size:Int)<=(n:Int)+1:=by omega
 have hn2:¬s.size<=n+1:=by omega
 have hn3:(n:Int)+1<(s.size:Int):=by omega
 have hn4:(n:Int)<=4096:=by omega
 have hw1:IntKind.i64.wrap ((n:Int)+1)=(n:Int)+1:=IntWalk.i64_in _ (by omega);obtain ⟨x,hx⟩:∃x,x=s[n+1].toNat:=⟨_,rfl⟩
 rw[<-hx] at hf ⊢;have hx256:x<256:=by rw[hx];exact (s[n+1]).toNat_lt
 have HX:=Lib.hid hx;have HS6:=λw=>six_none x hx256 (named_no hf) w;have HS6':=Lib.hid HS6;have HZ:=Lib.hid (And.intro hz0 hsz0);clear hx hf HS6;go_enter Tryz.func160,Tryz.ntmps160;go_upto_region 2 with (fail)
 generalize ((w.alloc (Obj.cells (bsA noB) 215)).alloc (Obj.cells (bsA noB) 215))=w0 at g0 s0 s1 ⊢;clear hz0 hsz0;have h0:=h.gr g0;have hz:R<w0.heap.size:=h0.lt;obtain ⟨cc,hc⟩:=id h0;obtain ⟨c0,c1⟩:=And.intro hc.c0 hc.c1;have hzw:w.heap.size+1<w0.heap.size:=s1.lt;clear hc;refine region_Q (by kernel_rfl) (by kernel_rfl) ?_;(iterate 3 refine qv ?_);refine qv ?_ (h:=λW hW=>by have q1:=bc hW hz c1;go_simp<;>rfl);(iterate 4 refine qv ?_);refine qv ?_ (h:=λW hW=>by have q0:=bc hW hz c0;go_simp<;>rfl);(iterate 2 refine qv ?_);refine wpQuiet_nil ?_;intro w1 hw1;have s01:=s0.gr hw1;have h1:=h0.gr hw1;have s11:=s1.gr hw1;have G1:=g0.trans hw1;have hz1:=hw1.size;have hzR1:R<w1.heap.size:=h1.lt;obtain ⟨cc1,hc1⟩:=id h1;clear c0 c1 s0 s1 h0 hz;obtain ⟨c0,c1⟩:=And.intro hc1.c0 hc1.c1;clear hc1 hw1;go_upto_region 4 with (fail)
 refine region_Q (by kernel_rfl) (by kernel_rfl) ?_;(iterate 3 refine qv ?_);refine qv ?_ (h:=λW hW=>by have q0:=bc hW hzR1 c0;go_simp<;>rfl);(iterate 3 refine qv ?_);refine qv ?_ (h:=λW hW=>by have q1:=bc hW hzR1 c1;go_simp<;>rfl);(iterate 3 refine qv ?_);refine wpQuiet_nil ?_;intro w2 hw2;rw[<-HX.out];have s02:=s01.gr hw2;have s12:=s11.gr hw2;have h2:=h1.gr hw2;have G2:=G1.trans hw2;have hz2:=hw2.size;have hzR2:R<w2.heap.size:=h2.lt;have hrow2:=h2.row;obtain ⟨cc2,hc2⟩:=id h2;clear c0 c1 s01 s11 h1 hzR1;obtain ⟨c1,f1⟩:=And.intro hc2.c1 hc2.f1;clear hc2;have h3:RfW (w2.setCell ⟨R,1,none⟩ (.int .i64 ((n:Int)+2))) R s (n+2) d e g A code:=by
  have t:=h2.setAt (n+2)
  rwa [show ((n+2:Nat):Int)=(n:Int)+2 by omega] at t
 have s03:=s02.other (p:=⟨R,1,none⟩) (by show w.heap.size≠R;omega) (.int .i64 ((n:Int)+2));have s13:=s12.other (p:=⟨R,1,none⟩) (by show w.heap.size+1≠R;omega) (.int .i64 ((n:Int)+2));have G3:GX R w (w2.setCell ⟨R,1,none⟩ (.int .i64 ((n:Int)+2))):=(GX.of_gr (R:=R) G2).setCell (p:=⟨R,1,none⟩) (.inl rfl) _;have H3:=Lib.hid (And.intro h3 (And.intro s03 (And.intro s13 G3)));clear h3 s03 s13 G3 s02 s12 G2 hrow2 h2;obtain ⟨hz0,hsz0⟩:=HZ.out;go_upto_region 7 with (first
  | (go_at_call 170;refine (HS6'.out _).mono ?_;rintro e w4 ⟨rfl,hg4⟩)
  | (refine wpList_store_row rfl 215 (.tmp 7) (.tmp 42) rfl w4.heap.size (bsA noB) rfl rfl _ _ (SetQ.new w4 noB) (size_bsQ _) (by simp only[bsA_size]) (bsA_one _) ?_))
 clear hz0 hsz0 c1 f1;obtain ⟨h3,s03,s13,G3⟩:=H3.out;have hz3:(w2.setCell ⟨R,1,none⟩ (.int .i64 ((n:Int)+2))).heap.size=w2.heap.size:=by simp
 have hz4:=hg4.size;rw[hz3] at hz4;have S5:SetQ ((w4.alloc (.cells (bsA noB) 215)).setRow w4.heap.size (bsA noB)) w4.heap.size noB:=SetQ.row (SetQ.new w4 noB);have s05:SetQ ((w4.alloc (.cells (bsA noB) 215)).setRow w4.heap.size (bsA noB)) w.heap.size noB:=SetQ.rowother ((s03.gr hg4).gr (Gr.alloc (Gr.refl _) _)) (by omega) _;have s15:SetQ ((w4.alloc (.cells (bsA noB) 215)).setRow w4.heap.size (bsA noB)) (w.heap.size+1) noB:=SetQ.rowother ((s13.gr hg4).gr (Gr.alloc (Gr.refl _) _)) (by omega) _;have hrow3:=h3.row;have h5:RfW ((w4.alloc (.cells (bsA noB) 215)).setRow w4.heap.size (bsA noB)) R s (n+2) d e g A code:=((h3.gr hg4).gr (Gr.alloc (Gr.refl _) _)).row' (by omega) (λe=>by have:=(hrow3 _ e).2;rw[hz3] at this;omega);have G5:GX R w ((w4.alloc (.cells (bsA noB) 215)).setRow w4.heap.size (bsA noB)):=((G3.trans (GX.of_gr hg4)).alloc _).setRow (.inr (by omega)) _;have hz5:((w4.alloc (.cells (bsA noB) 215)).setRow w4.heap.size (bsA noB)).heap.size=w4.heap.size+1:=by simp
 generalize ((w4.alloc (.cells (bsA noB) 215)).setRow w4.heap.size (bsA noB))=w5 at S5 s05 s15 h5 G5 hz5 ⊢;clear h3 s03 s13 G3 H3 hz3 hg4;have hrow5:∀k,blk A=some k->k<w.heap.size:=λk hk=>(h.row k hk).2;have HW:=λW=>word_any x hx256 W;have HW2:=Lib.hid HW;clear HW;go_upto_region 9 with (fail)
 refine wp_region_Z 7 (λW=>SetQ W (w.heap.size+1) noB) (by kernel_rfl) ?_;have hS0c:SetQ w5.drew (w.heap.size+1) noB:=s15;have hDc:SetQ w5.drew w.heap.size noB:=s05;refine zu 0 hS0c ?_;refine wpAnyZ_take (i:=1) (v:= .agg (bsA noB)) rfl (by kernel_rfl) (λ_ _ _ h=>h) (by rfl) (λW hS=>?h13) hS0c ?r13;case h13=>
  simp only[List.getElem_toArray,List.getElem_cons_succ,List.getElem_cons_zero];exact exec_load_row _ _ rfl (w.heap.size+1) rfl hS und_arr rfl (size_bsQ _)
 simp only[Act.put,List.getElem_toArray,List.getElem_cons_succ,List.getElem_cons_zero,List.setIfInBounds_toArray,List.set_cons_zero,List.set_cons_succ];refine zu 2 hS0c ?_;refine zs 3 rfl (λK hK=>?_);simp only[Gl];go_simp;refine (HW2.out _).mono ?_;rintro e w6 ⟨rfl,rfl⟩;go_wp2_with fail;refine hK.out _ _ (λhnz=>?zsc3) (λ_=>?zrc3);case zsc3=>exact hS0c
 clear hK K;try simp only[Pu,Gl]
 refine zu 4 hS0c ?_;refine zs 5 rfl (λK hK=>?_);simp only[Gl];go_simp;refine hK.out _ _ (λhnz=>?zsc5) (λ_=>?zrc5);case zsc5=>exact hS0c
 clear hK K;try simp only[Pu,Gl]
 refine zs 6 rfl (λK hK=>?_);simp only[Gl];refine wp_store_row _ _ _ rfl w.heap.size (bsA noB) rfl rfl _ _ hDc (size_bsQ _) (by simp only[bsA_size]) (bsA_one _) ?_;have hS1c:SetQ (w5.drew.setRow w.heap.size (bsA noB)) (w.heap.size+1) noB:=SetQ.rowother hS0c (by omega) _;refine hK.out _ _ (λhnz=>?zsc6) (λ_=>?zrc6);case zsc6=>exact hS1c
 clear hK K;try simp only[Pu,Gl]
 refine zs 7 rfl (λK hK=>?_);simp only[Gl];go_simp;refine hK.out _ _ (λhnz=>?zsc7) (λ_=>?zrc7);case zsc7=>exact absurd rfl hnz
 clear hK K;try simp only[Pu,Gl]
 refine wpAnyZ_done (by kernel_rfl) ?_ _;go_wp2;exact bodyPost_ret (v:= .tuple #[.int .u8 x, .agg (bsA noB), .bool (!alnB x)]) (res_arr3 _ 2 3 4 (by kernel_rfl) _ _ w.heap.size _ _ _ rfl rfl rfl (SetQ.row hDc)) rfl ⟨rfl,(h5.gr (Gr.drew (Gr.refl _))).row' (by omega) (λe=>by have:=hrow5 _ e;omega),(G5.drew).setRow (.inr (Nat.le_refl _)) _⟩
def ItS (R:Nat) (s:ByteArray) (n t:Nat) (W:World):Prop:=W.cell? ⟨R,0,none⟩=some (.string s)/\W.cell? ⟨R,1,none⟩=some (.int .i64 n)/\SetQ W t noB
theorem item_end {w:World} {R n d e g:Nat} {s:ByteArray} {A:Option Addr} {code:List In} (h:RfW w R s n d e g A code) (hs:(s.size:Int)<=4096) (hn:n=s.size):Calls Tryz.prog 168 #[.pointer (some ⟨R,0,none⟩)] w (RetX w R s n d e g A code 0 noB false):=by
 obtain ⟨hz0,hsz0⟩:=zero_of_info info_arr;have g0:Gr w ((w.alloc (Obj.cells (bsA noB) 215)).alloc (Obj.cells (bsA noB) 215)):=gq;have s0:SetQ ((w.alloc (Obj.cells (bsA noB) 215)).alloc (Obj.cells (bsA noB) 215)) w.heap.size noB:=(SetQ.new w noB).gr (Gr.alloc (Gr.refl _) _);have s1:SetQ ((w.alloc (Obj.cells (bsA noB) 215)).alloc (Obj.cells (bsA noB) 215)) (w.heap.size+1) noB:=by
  have:=SetQ.new (w.alloc (Obj.cells (bsA noB) 215)) noB;simpa using this
 have hlt:=h.lt;have hn1:(s.size:Int)<=(n:Int):=by omega
 have hn2:s.size<=n:=by omega
 clear hn;go_enter Tryz.func168,Tryz.ntmps168;go_upto_region 2 with (fail)
 generalize ((w.alloc (Obj.cells (bsA noB) 215)).alloc (Obj.cells (bsA noB) 215))=w0 at g0 s0 s1 ⊢;clear hz0 hsz0;have h0:=h.gr g0;have hz:R<w0.heap.size:=h0.lt;obtain ⟨cc,hc⟩:=id h0;obtain ⟨c0,c1⟩:=And.intro hc.c0 hc.c1;have hzw:w.heap.size+1<w0.heap.size:=s1.lt;clear hc;refine region_Q (by kernel_rfl) (by kernel_rfl) ?_;(iterate 3 refine qv ?_);refine qv ?_ (h:=λW hW=>by have q1:=bc hW hz c1;go_simp<;>rfl);(iterate 3 refine qv ?_);refine qv ?_ (h:=λW hW=>by have q0:=bc hW hz c0;go_simp<;>rfl);(iterate 2 refine qv ?_);refine wpQuiet_nil ?_;intro w1 hw1;have s01:=s0.gr hw1;have s11:=s1.gr hw1;have h1:=h0.gr hw1;have hrow:=h.row;have hz1:=hw1.size;have G1:=g0.trans hw1;clear c0 c1 s0 s1;go_upto_region 3 with (fail)
 refine wp_region_Z 3 (λW=>SetQ W (w.heap.size+1) noB) (by kernel_rfl) ?_;have hS0a:SetQ w1.drew (w.heap.size+1) noB:=s11;have hDa:SetQ w1.drew w.heap.size noB:=s01;refine wpAnyZ_take (i:=0) (v:= .agg (bsA noB)) rfl (by kernel_rfl) (λ_ _ _ h=>h) (by rfl) (λW hS=>?h16) hS0a ?r16;case h16=>
  simp only[List.getElem_toArray,List.getElem_cons_succ,List.getElem_cons_zero];exact exec_load_row _ _ rfl (w.heap.size+1) rfl hS und_arr rfl (size_bsQ _)
 simp only[Act.put,List.getElem_toArray,List.getElem_cons_succ,List.getElem_cons_zero,List.setIfInBounds_toArray,List.set_cons_zero,List.set_cons_succ];refine zu 1 hS0a ?_;refine zs 2 rfl (λK hK=>?_);simp only[Gl];refine wp_store_row _ _ _ rfl w.heap.size (bsA noB) rfl rfl _ _ hDa (size_bsQ _) (by simp only[bsA_size]) (bsA_one _) ?_;have hS1a:SetQ (w1.drew.setRow w.heap.size (bsA noB)) (w.heap.size+1) noB:=SetQ.rowother hS0a (by omega) _;refine hK.out _ _ (λhnz=>?zsa2) (λ_=>?zra2);case zsa2=>exact hS1a
 clear hK K;try simp only[Pu,Gl]
 refine zs 3 rfl (λK hK=>?_);simp only[Gl];go_simp;refine hK.out _ _ (λhnz=>?zsa3) (λ_=>?zra3);case zsa3=>exact absurd rfl hnz
 clear hK K;try simp only[Pu,Gl]
 refine wpAnyZ_done (by kernel_rfl) ?_ _;go_wp2;exact bodyPost_ret (v:= .tuple #[.int .u8 0, .agg (bsA noB), .bool false]) (res_arr3 _ 2 3 4 (by kernel_rfl) _ _ w.heap.size _ _ _ rfl rfl rfl (SetQ.row hDa)) rfl ⟨rfl,(h1.gr (Gr.drew (Gr.refl _))).row' (by omega) (λe=>by have:=(hrow _ e).2;omega),GX.of_gr (Gr.setRow G1.drew (Nat.le_refl _) _)⟩
theorem item_stroke {w:World} {R n d e g:Nat} {s:ByteArray} {A:Option Addr} {code:List In} (h:RfW w R s n d e g A code) (hs:(s.size:Int)<=4096) (hn:n<s.size) (h92:s[n].toNat=92) (n' c:Nat) (f:Bs) (ok:Bool) (HS:∀W,RfW W R s n d e g A code->Calls Tryz.prog 160 #[.pointer (some ⟨R,0,none⟩)] W (RetX W R s n' d e g A code c f ok)) :
  Calls Tryz.prog 168 #[.pointer (some ⟨R,0,none⟩)] w (RetX w R s n' d e g A code c f ok):=by
 obtain ⟨hz0,hsz0⟩:=zero_of_info info_arr;have g0:Gr w ((w.alloc (Obj.cells (bsA noB) 215)).alloc (Obj.cells (bsA noB) 215)):=gq;have s0:SetQ ((w.alloc (Obj.cells (bsA noB) 215)).alloc (Obj.cells (bsA noB) 215)) w.heap.size noB:=(SetQ.new w noB).gr (Gr.alloc (Gr.refl _) _);have s1:SetQ ((w.alloc (Obj.cells (bsA noB) 215)).alloc (Obj.cells (bsA noB) 215)) (w.heap.size+1) noB:=by
  have:=SetQ.new (w.alloc (Obj.cells (bsA noB) 215)) noB;simpa using this
 have hlt:=h.lt;have hn1:¬(s.size:Int)<=(n:Int):=by omega
 have hn2:¬s.size<=n:=by omega
 have hn3:(n:Int)<(s.size:Int):=by omega
 have hq:((s[n].toNat:Int)==92)=true:=by simp[h92]
 have HS':=Lib.hid HS;clear h92 HS;go_enter Tryz.func168,Tryz.ntmps168;go_upto_region 2 with (fail)
 generalize ((w.alloc (Obj.cells (bsA noB) 215)).alloc (Obj.cells (bsA noB) 215))=w0 at g0 s0 s1 ⊢;clear hz0 hsz0;have h0:=h.gr g0;have hz:R<w0.heap.size:=h0.lt;obtain ⟨cc,hc⟩:=id h0;obtain ⟨c0,c1⟩:=And.intro hc.c0 hc.c1;have hzw:w.heap.size+1<w0.heap.size:=s1.lt;clear hc;refine region_Q (by kernel_rfl) (by kernel_rfl) ?_;(iterate 3 refine qv ?_);refine qv ?_ (h:=λW hW=>by have q1:=bc hW hz c1;go_simp<;>rfl);(iterate 3 refine qv ?_);refine qv ?_ (h:=λW hW=>by have q0:=bc hW hz c0;go_simp<;>rfl);(iterate 2 refine qv ?_);refine wpQuiet_nil ?_;intro w1 hw1;have s01:=s0.gr hw1;have h1:=h0.gr hw1;have s11:=s1.gr hw1;have G1:=g0.trans hw1;have hz1:=hw1.size;have hzR1:R<w1.heap.size:=h1.lt;obtain ⟨cc1,hc1⟩:=id h1;clear c0 c1 s0 s1 h0 hz;obtain ⟨c0,c1⟩:=And.intro hc1.c0 hc1.c1;clear hc1 hw1;go_upto_region 4 with (fail)
 refine region_Q (by kernel_rfl) (by kernel_rfl) ?_;(iterate 3 refine qv ?_);refine qv ?_ (h:=λW hW=>by have q0:=bc hW hzR1 c0;go_simp<;>rfl);(iterate 3 refine qv ?_);refine qv ?_ (h:=λW hW=>by have q1:=bc hW hzR1 c1;go_simp<;>rfl);(iterate 2 refine qv ?_);refine wpQuiet_nil ?_;intro w2 hw2;have s02:=s01.gr hw2;have s12:=s11.gr hw2;have h2:=h1.gr hw2;have G2:=G1.trans hw2;have hz2:=hw2.size;have hzR2:R<w2.heap.size:=h2.lt;clear c0 c1 s01 s11 h1 hzR1;have hrow:=h.row;go_wp2_with (first
  | (go_at_call 160;refine (HS'.out _ h2).mono ?_;rintro x w3 ⟨rfl,h3,G3⟩;have hz3:=G3.size;have s03:SetQ w3 w.heap.size noB:=(G3.block _ (by omega) (by omega)).trans s02)
  | (refine wpList_store_row rfl 215 (.tmp 3) (.tmp 30) rfl w.heap.size (bsA f) rfl rfl _ _ s03 (size_bsQ _) (by simp only[bsA_size]) (bsA_one _) ?_))
 exact bodyPost_ret (v:= .tuple #[.int .u8 c, .agg (bsA f), .bool ok]) (res_arr3 _ 2 3 4 (by kernel_rfl) _ _ w.heap.size _ _ _ rfl rfl rfl (SetQ.row s03)) rfl ⟨rfl,h3.row' (by omega) (λe=>by have:=(hrow _ e).2;omega),((GX.of_gr G2).trans G3).setRow (.inr (Nat.le_refl _)) _⟩
theorem item_plain {w:World} {R n d e g:Nat} {s:ByteArray} {A:Option Addr} {code:List In} (h:RfW w R s n d e g A code) (hs:(s.size:Int)<=4096) (hn:n<s.size) (h92:s[n].toNat≠92) :
  Calls Tryz.prog 168 #[.pointer (some ⟨R,0,none⟩)] w (RetX w R s (n+1) d e g A code (s[n].toNat) noB true):=by
 obtain ⟨hz0,hsz0⟩:=zero_of_info info_arr;have g0:Gr w ((w.alloc (Obj.cells (bsA noB) 215)).alloc (Obj.cells (bsA noB) 215)):=gq;have s0:SetQ ((w.alloc (Obj.cells (bsA noB) 215)).alloc (Obj.cells (bsA noB) 215)) w.heap.size noB:=(SetQ.new w noB).gr (Gr.alloc (Gr.refl _) _);have s1:SetQ ((w.alloc (Obj.cells (bsA noB) 215)).alloc (Obj.cells (bsA noB) 215)) (w.heap.size+1) noB:=by
  have:=SetQ.new (w.alloc (Obj.cells (bsA noB) 215)) noB;simpa using this
 have hlt:=h.lt;have hn1:¬(s.size:Int)<=(n:Int):=by omega
 have hn2:¬s.size<=n:=by omega
 have hn3:(n:Int)<(s.size:Int):=by omega
 have hn4:(n:Int)<=4096:=by omega
 have hq:((s[n].toNat:Int)==92)=false:=beq_eq_false_iff_ne.2 (by omega);have hw1:IntKind.i64.wrap (n:Int)=(n:Int):=IntWalk.i64_in _ (by omega);have hn5:(0:Int)<=(n:Int):=by omega
 clear h92;go_enter Tryz.func168,Tryz.ntmps168;go_upto_region 2 with (fail)
 generalize ((w.alloc (Obj.cells (bsA noB) 215)).alloc (Obj.cells (bsA noB) 215))=w0 at g0 s0 s1 ⊢;clear hz0 hsz0;have h0:=h.gr g0;have hz:R<w0.heap.size:=h0.lt;obtain ⟨cc,hc⟩:=id h0;obtain ⟨c0,c1⟩:=And.intro hc.c0 hc.c1;have hzw:w.heap.size+1<w0.heap.size:=s1.lt;clear hc;refine region_Q (by kernel_rfl) (by kernel_rfl) ?_;(iterate 3 refine qv ?_);refine qv ?_ (h:=λW hW=>by have q1:=bc hW hz c1;go_simp<;>rfl);(iterate 3 refine qv ?_);refine qv ?_ (h:=λW hW=>by have q0:=bc hW hz c0;go_simp<;>rfl);(iterate 2 refine qv ?_);refine wpQuiet_nil ?_;intro w1 hw1;have s01:=s0.gr hw1;have h1:=h0.gr hw1;have s11:=s1.gr hw1;have G1:=g0.trans hw1;have hz1:=hw1.size;have hzR1:R<w1.heap.size:=h1.lt;obtain ⟨cc1,hc1⟩:=id h1;clear c0 c1 s0 s1 h0 hz;obtain ⟨c0,c1⟩:=And.intro hc1.c0 hc1.c1;clear hc1 hw1;go_upto_region 4 with (fail)
 refine region_Q (by kernel_rfl) (by kernel_rfl) ?_;(iterate 3 refine qv ?_);refine qv ?_ (h:=λW hW=>by have q0:=bc hW hzR1 c0;go_simp<;>rfl);(iterate 3 refine qv ?_);refine qv ?_ (h:=λW hW=>by have q1:=bc hW hzR1 c1;go_simp<;>rfl);(iterate 2 refine qv ?_);refine wpQuiet_nil ?_;intro w2 hw2;have s02:=s01.gr hw2;have s12:=s11.gr hw2;have h2:=h1.gr hw2;have G2:=G1.trans hw2;have hz2:=hw2.size;have hzR2:R<w2.heap.size:=h2.lt;clear c0 c1 s01 s11 h1 hzR1;have hrow:=h.row;obtain ⟨cc2,hc2⟩:=id h2;obtain ⟨c1,f1⟩:=And.intro hc2.c1 hc2.f1;have c0:=hc2.c0;clear hc2;have h3:RfW (w2.setCell ⟨R,1,none⟩ (.int .i64 ((n:Int)+1))) R s (n+1) d e g A code:=by
  have t:=h2.setAt (n+1)
  rwa [show ((n+1:Nat):Int)=(n:Int)+1 by omega] at t
 have s03:=s02.other (p:=⟨R,1,none⟩) (by show w.heap.size≠R;omega) (.int .i64 ((n:Int)+1));have s13:=s12.other (p:=⟨R,1,none⟩) (by show w.heap.size+1≠R;omega) (.int .i64 ((n:Int)+1));have G3:GX R w (w2.setCell ⟨R,1,none⟩ (.int .i64 ((n:Int)+1))):=(GX.of_gr (R:=R) G2).setCell (p:=⟨R,1,none⟩) (.inl rfl) _;go_upto_region 7 with (fail)
 have hz3:(w2.setCell ⟨R,1,none⟩ (.int .i64 ((n:Int)+1))).heap.size=w2.heap.size:=by simp
 generalize (w2.setCell ⟨R,1,none⟩ (.int .i64 ((n:Int)+1)))=w3 at h3 s03 s13 G3 hz3 ⊢;clear c0 c1 f1 s02 s12 h2;obtain ⟨cc3,hc3⟩:=id h3;have hSI:ItS R s (n+1) (w.heap.size+1) w3.drew:=⟨hc3.c0,hc3.c1,s13⟩
 have hD:SetQ w3.drew w.heap.size noB:=s03;clear hc3;refine wp_region_Z 13 (ItS R s (n+1) (w.heap.size+1)) (by kernel_rfl) ?_;refine zu 0 hSI ?_;refine zu 1 hSI ?_;refine zu 2 hSI ?_;refine zu 3 hSI ?_ (hy:=λW hS=>by obtain ⟨q0, -, -⟩:=hS;go_simp<;>rfl);refine zu 4 hSI ?_;refine zu 5 hSI ?_;refine zu 6 hSI ?_;refine zu 7 hSI ?_ (hy:=λW hS=>by obtain ⟨-,q1, -⟩:=hS;rw[show ((n+1:Nat):Int)=(n:Int)+1 by omega] at q1;go_simp<;>rfl);refine zu 8 hSI ?_;refine zu 9 hSI ?_;refine wpAnyZ_take (i:=10) (v:= .agg (bsA noB)) rfl (by kernel_rfl) (λ_ _ _ h=>h) (by rfl) (λW hS=>?h28) hSI ?r28;case h28=>
  simp only[List.getElem_toArray,List.getElem_cons_succ,List.getElem_cons_zero];exact exec_load_row _ _ rfl (w.heap.size+1) rfl hS.2.2 und_arr rfl (size_bsQ _)
 simp only[Act.put,List.getElem_toArray,List.getElem_cons_succ,List.getElem_cons_zero,List.setIfInBounds_toArray,List.set_cons_zero,List.set_cons_succ];refine zu 11 hSI ?_;refine zs 12 rfl (λK hK=>?_);simp only[Gl];refine wp_store_row _ _ _ rfl w.heap.size (bsA noB) rfl rfl _ _ hD (size_bsQ _) (by simp only[bsA_size]) (bsA_one _) ?_;have hSI1:ItS R s (n+1) (w.heap.size+1) (w3.drew.setRow w.heap.size (bsA noB)):=⟨(World.cell?_of_block (a:=⟨R,0,none⟩) (setRow_other _ _ R _ (by omega))).trans hSI.1,(World.cell?_of_block (a:=⟨R,1,none⟩) (setRow_other _ _ R _ (by omega))).trans hSI.2.1,SetQ.rowother hSI.2.2 (by omega) _⟩
 refine hK.out _ _ (λhnz=>?zsi12) (λ_=>?zri12);case zsi12=>exact hSI1
 clear hK K;try simp only[Pu,Gl]
 refine zs 13 rfl (λK hK=>?_);simp only[Gl];go_simp;refine hK.out _ _ (λhnz=>?zsi13) (λ_=>?zri13);case zsi13=>exact absurd rfl hnz
 clear hK K;try simp only[Pu,Gl]
 refine wpAnyZ_done (by kernel_rfl) ?_ _;go_wp2;exact bodyPost_ret (v:= .tuple #[.int .u8 s[n].toNat, .agg (bsA noB), .bool true]) (res_arr3 _ 2 3 4 (by kernel_rfl) _ _ w.heap.size _ _ _ rfl rfl rfl (SetQ.row hD)) rfl ⟨rfl,(h3.gr (Gr.drew (Gr.refl _))).row' (by omega) (λe=>by have:=(hrow _ e).2;omega),(G3.drew).setRow (.inr (Nat.le_refl _)) _⟩
theorem eqn_100 (w:World):(Op.equalIn 10000 215 (.agg (bsA digB)) (.agg (bsA noB))).run Tryz.prog w= .ok false w:=by kernel_rfl
theorem eqn_68 (w:World):(Op.equalIn 10000 215 (.agg (bsA (notB digB))) (.agg (bsA noB))).run Tryz.prog w= .ok false w:=by kernel_rfl
theorem eqn_119 (w:World):(Op.equalIn 10000 215 (.agg (bsA wordB)) (.agg (bsA noB))).run Tryz.prog w= .ok false w:=by kernel_rfl
theorem eqn_87 (w:World):(Op.equalIn 10000 215 (.agg (bsA (notB wordB))) (.agg (bsA noB))).run Tryz.prog w= .ok false w:=by kernel_rfl
theorem eqn_115 (w:World):(Op.equalIn 10000 215 (.agg (bsA spB)) (.agg (bsA noB))).run Tryz.prog w= .ok false w:=by kernel_rfl
theorem eqn_83 (w:World):(Op.equalIn 10000 215 (.agg (bsA (notB spB))) (.agg (bsA noB))).run Tryz.prog w= .ok false w:=by kernel_rfl
theorem eqn_none (w:World):(Op.equalIn 10000 215 (.agg (bsA noB)) (.agg (bsA noB))).run Tryz.prog w= .ok true w:=by kernel_rfl
theorem eqn_some {c:Nat} {f:Bs} (h:namedB c=some f) (w:World):(Op.equalIn 10000 215 (.agg (bsA f)) (.agg (bsA noB))).run Tryz.prog w= .ok false w:=by
 by_cases h100:c=100
 ·subst h100;injection h with h;subst h;exact eqn_100 w
 by_cases h68:c=68
 ·subst h68;injection h with h;subst h;exact eqn_68 w
 by_cases h119:c=119
 ·subst h119;injection h with h;subst h;exact eqn_119 w
 by_cases h87:c=87
 ·subst h87;injection h with h;subst h;exact eqn_87 w
 by_cases h115:c=115
 ·subst h115;injection h with h;subst h;exact eqn_115 w
 by_cases h83:c=83
 ·subst h83;injection h with h;subst h;exact eqn_83 w
 unfold namedB at h;rw[beq_eq_false_iff_ne.2 h100,beq_eq_false_iff_ne.2 h68,beq_eq_false_iff_ne.2 h119,beq_eq_false_iff_ne.2 h87,beq_eq_false_iff_ne.2 h115,beq_eq_false_iff_ne.2 h83] at h;cases h
def sxB (l:List UInt8):Bool:=match l with|a::b::_=>a.toNat==92&&isNamed b.toNat|_=>false
theorem sixat_end {w:World} {R n d e g:Nat} {s:ByteArray} {A:Option Addr} {code:List In} (h:RfW w R s n d e g A code) (hs:(s.size:Int)<=4096) (i:Nat) (hi4:(i:Int)<=5000) (hi:¬i+1<s.size):Calls Tryz.prog 169 #[.pointer (some ⟨R,0,none⟩), .int .i64 i] w λx w'=>x= .returned (.bool false)/\Gr w w':=by
 obtain ⟨hz0,hsz0⟩:=zero_of_info info_arr;obtain ⟨cc,hc⟩:=h;have c0:=hc.c0;clear hc;have h1:(s.size:Int)<=(i:Int)+1:=by omega
 go_enter Tryz.func169,Tryz.ntmps169;go_wp2;go_ret;exact ⟨rfl,Gr.refl _⟩
theorem sixat_no {w:World} {R n d e g:Nat} {s:ByteArray} {A:Option Addr} {code:List In} (h:RfW w R s n d e g A code) (hs:(s.size:Int)<=4096) (i:Nat) (hi4:(i:Int)<=5000) (hi:i+1<s.size) (h92:s[i].toNat≠92):Calls Tryz.prog 169 #[.pointer (some ⟨R,0,none⟩), .int .i64 i] w λx w'=>x= .returned (.bool false)/\Gr w w':=by
 obtain ⟨hz0,hsz0⟩:=zero_of_info info_arr;obtain ⟨cc,hc⟩:=h;have c0:=hc.c0;clear hc;have h1:¬(s.size:Int)<=(i:Int)+1:=by omega
 have h2:(i:Int)<(s.size:Int):=by omega
 have hi0:i<s.size:=by omega
 have hq:((s[i].toNat:Int) != 92)=true:=by simp[bne,beq_eq_false_iff_ne.2 (show (s[i].toNat:Int)≠92 by omega)]
 clear h92;go_enter Tryz.func169,Tryz.ntmps169;go_wp2;go_ret;exact ⟨rfl,Gr.refl _⟩
theorem sixat_yes {w:World} {R n d e g:Nat} {s:ByteArray} {A:Option Addr} {code:List In} (h:RfW w R s n d e g A code) (hs:(s.size:Int)<=4096) (i:Nat) (hi4:(i:Int)<=5000) (hi:i+1<s.size) (h92:s[i].toNat=92) (y:Nat) (hy:y=s[i+1].toNat):Calls Tryz.prog 169 #[.pointer (some ⟨R,0,none⟩), .int .i64 i] w λx w'=>x= .returned (.bool (isNamed y))/\Gr w w':=by
 obtain ⟨hz0,hsz0⟩:=zero_of_info info_arr;obtain ⟨cc,hc⟩:=h;have c0:=hc.c0;clear hc;have h1:¬(s.size:Int)<=(i:Int)+1:=by omega
 have h2:(i:Int)<(s.size:Int):=by omega
 have h3:(i:Int)+1<(s.size:Int):=by omega
 have hi0:i<s.size:=by omega
 have hq:((s[i].toNat:Int) != 92)=false:=by simp[h92]
 have HS6:Hid (∀W,_):=Lib.hid (λW=>six_any (s[i+1].toNat) (s[i+1]).toNat_lt W);subst hy;clear h92;go_enter Tryz.func169,Tryz.ntmps169;go_wp2_with (first
  | (go_at_call 170;refine (HS6.out _).mono ?_;rintro x w4 ⟨rfl,hg4⟩)
  | (refine wpList_store_row rfl 215 (.tmp 5) (.tmp 33) rfl w4.heap.size (bsA (nmB s[i+1].toNat)) rfl rfl _ _ (SetQ.new w4 noB) (size_bsQ _) (by simp only[bsA_size]) (bsA_one _) ?_))
 go_ret;exact ⟨rfl,Gr.setRow (hg4.alloc _) hg4.size _⟩
theorem sixat_any {w:World} {R n d e g:Nat} {s:ByteArray} {A:Option Addr} {code:List In} (h:RfW w R s n d e g A code) (hs:(s.size:Int)<=4096) (i:Nat) (hi4:(i:Int)<=5000):Calls Tryz.prog 169 #[.pointer (some ⟨R,0,none⟩), .int .i64 i] w λx w'=>x= .returned (.bool (sxB (s.data.toList.drop i)))/\Gr w w':=by
 by_cases hi:i+1<s.size
 ·have hl1:i<s.data.toList.length:=by simp;omega
  have hl2:i+1<s.data.toList.length:=by simp;omega
  have e:sxB (s.data.toList.drop i)=(s[i].toNat==92&&isNamed s[i+1].toNat):=by
   rw[List.drop_eq_getElem_cons hl1,List.drop_eq_getElem_cons hl2];rfl
  rw[e];by_cases h92:s[i].toNat=92
  ·rw[beq_iff_eq.2 h92,Bool.true_and];exact sixat_yes h hs i hi4 hi h92 _ rfl
  ·rw[beq_eq_false_iff_ne.2 h92,Bool.false_and];exact sixat_no h hs i hi4 hi h92
 ·have e:sxB (s.data.toList.drop i)=false:=by
   match e:s.data.toList.drop i with
   | []=>rfl
   | [_]=>rfl
   | a::b::r=>
    have:=congrArg List.length e;simp at this;omega
  rw[e];exact sixat_end h hs i hi4 hi
theorem item_some {w:World} {R n d e g:Nat} {s:ByteArray} {A:Option Addr} {code:List In} (h:RfW w R s n d e g A code) (hs:(s.size:Int)<=4096) (hn:n<=s.size) {f:Bs} {a:Nat} {wd:Bool} {t:List UInt8} (hx:sideS (s.data.toList.drop n)=(some (f,a,wd),t)) :
  ∃n',s.data.toList.drop n'=t/\n<n'/\n'<=s.size/\a<256/\(wd=false->f=oneB a)/\(wd=true->∃c,namedB c=some f)/\
  ∀{w:World},RfW w R s n d e g A code->Calls Tryz.prog 168 #[.pointer (some ⟨R,0,none⟩)] w (RetX w R s n' d e g A code (bif wd then 0 else a) (bif wd then f else noB) true):=by
 have hlt:n<s.size:=by
  rcases Nat.lt_or_ge n s.size with h1|h1
  ·exact h1
  ·rw[List.drop_eq_nil_of_le (by simp;omega)] at hx;cases hx
 have hl:n<s.data.toList.length:=by simpa using hlt
 rw[List.drop_eq_getElem_cons hl] at hx;have e0:s.data.toList[n]=s[n]:=rfl;rw[e0] at hx;simp only[sideS] at hx;by_cases h92:s[n].toNat=92
 ·rw[beq_iff_eq.2 h92] at hx;simp only[cond_true] at hx;by_cases h1:n+1<s.size
  ·have hl1:n+1<s.data.toList.length:=by simpa using h1
   rw[List.drop_eq_getElem_cons hl1] at hx;have e1:s.data.toList[n+1]=s[n+1]:=rfl;rw[e1] at hx;simp only[escS] at hx;cases hnm:namedB (s[n+1].toNat) with
   | some F=>
    rw[hnm] at hx;simp only[isNamed,hnm,Option.isSome_some] at hx;injection hx with hx1 hx2;injection hx1 with hx1;injection hx1 with hf hx3;injection hx3 with ha hw;subst hf;subst ha;subst hw;subst hx2;exact ⟨n+2,rfl,by omega,by omega,(s[n+1]).toNat_lt,(λh=>by cases h),λ_=>⟨_,hnm⟩,λh=>item_stroke h hs hlt h92 _ _ _ _ λW hW=>stroke_named hW hs h1 hnm⟩
   | none=>
    rw[hnm] at hx;simp only[isNamed,hnm,Option.isSome_none] at hx;cases hal:alnB (s[n+1].toNat)
    ·rw[isWord_aln,hal] at hx;simp only[cond_false] at hx;injection hx with hx1 hx2;injection hx1 with hx1;injection hx1 with hf hx3;injection hx3 with ha hw;subst hf;subst ha;subst hw;subst hx2;refine ⟨n+2,rfl,by omega,by omega,(s[n+1]).toNat_lt,λ_=>rfl,(λh=>by cases h),λh=>item_stroke h hs hlt h92 _ _ _ _ λW hW=>?_⟩;have:=stroke_byte hW hs h1 hnm;rw[hal] at this;exact this
    ·rw[isWord_aln,hal] at hx;simp at hx
  ·rw[List.drop_eq_nil_of_le (by simp;omega)] at hx;simp at hx
 ·rw[beq_eq_false_iff_ne.2 h92] at hx;simp only[cond_false] at hx;injection hx with hx1 hx2;injection hx1 with hx1;injection hx1 with hf hx3;injection hx3 with ha hw;subst hf;subst ha;subst hw;subst hx2;exact ⟨n+1,rfl,by omega,by omega,(s[n]).toNat_lt,λ_=>rfl,(λh=>by cases h),λh=>item_plain h hs hlt h92⟩
theorem item_none {w:World} {R n d e g:Nat} {s:ByteArray} {A:Option Addr} {code:List In} (h:RfW w R s n d e g A code) (hs:(s.size:Int)<=4096) (hn:n<=s.size) {t:List UInt8} (hx:sideS (s.data.toList.drop n)=(none,t)) :
  ∃n' c f,n<=n'/\n'<=s.size+1/\∀{w:World},RfW w R s n d e g A code->Calls Tryz.prog 168 #[.pointer (some ⟨R,0,none⟩)] w (RetX w R s n' d e g A code c f false):=by
 by_cases hlt:n<s.size
 ·have hl:n<s.data.toList.length:=by simpa using hlt
  rw[List.drop_eq_getElem_cons hl] at hx;have e0:s.data.toList[n]=s[n]:=rfl;rw[e0] at hx;simp only[sideS] at hx;by_cases h92:s[n].toNat=92
  ·rw[beq_iff_eq.2 h92] at hx;simp only[cond_true] at hx;by_cases h1:n+1<s.size
   ·have hl1:n+1<s.data.toList.length:=by simpa using h1
    rw[List.drop_eq_getElem_cons hl1] at hx;have e1:s.data.toList[n+1]=s[n+1]:=rfl;rw[e1] at hx;simp only[escS] at hx;cases hnm:namedB (s[n+1].toNat) with
    | some F=>
     rw[hnm] at hx;simp at hx
    | none=>
     rw[hnm] at hx;cases hal:alnB (s[n+1].toNat)
     ·rw[isWord_aln,hal] at hx;simp at hx
     ·refine ⟨n+2,s[n+1].toNat,noB,by omega,by omega,λh=>item_stroke h hs hlt h92 _ _ _ _ λW hW=>?_⟩;have:=stroke_byte hW hs h1 hnm;rw[hal] at this;exact this
   ·exact ⟨n,0,noB,by omega,by omega,λh=>item_stroke h hs hlt h92 _ _ _ _ λW hW=>stroke_end hW hs (by omega)⟩
  ·rw[beq_eq_false_iff_ne.2 h92] at hx;simp at hx
 ·exact ⟨n,0,noB,by omega,by omega,λh=>item_end h hs (by omega)⟩
end Go.Proofs.YtjapddfnpmlifaaGreatDoor
