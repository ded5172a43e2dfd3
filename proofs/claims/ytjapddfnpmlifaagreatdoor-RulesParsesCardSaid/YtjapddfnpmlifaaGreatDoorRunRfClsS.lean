import Derived.Test.YtjapddfnpmlifaaGreatDoorRunRfCls
set_option linter.all false
set_option maxRecDepth 1000000
set_option maxHeartbeats 12800000
namespace Go.Proofs.YtjapddfnpmlifaaGreatDoor
open Go.RowKit
def bytesS (c:Nat) (r:List UInt8):Option Bs×List UInt8:=
 bif c==46 then (some (notB (oneB 10)),r) else bif c==91 then classS r else bif c==92 then escS r else bif spcB c then (none,r) else (some (oneB c),r)
theorem CQ.start {w:World} {R n d e g:Nat} {s:ByteArray} {A:Option Addr} {code:List In} (h:RfW w R s n d e g A code):CQ R w noB s n d e g A code ((w.alloc (Obj.cells (bsA noB) 215)).alloc (Obj.cells (bsA noB) 215)):=by
 have g:Gr w ((w.alloc (Obj.cells (bsA noB) 215)).alloc (Obj.cells (bsA noB) 215)):=Gr.alloc (Gr.alloc (Gr.refl _) _) _;refine ⟨GX.of_gr g,(SetQ.new w noB).gr (Gr.alloc (Gr.refl _) _),?_,h.gr g⟩;have:=SetQ.new (w.alloc (Obj.cells (bsA noB) 215)) noB;simpa using this
theorem stroke_none {w:World} {R n d e g:Nat} {s:ByteArray} {A:Option Addr} {code:List In} (h:RfW w R s n d e g A code) (hs:(s.size:Int)<=4096) (hn:n<s.size) {t:List UInt8} (hx:escS (s.data.toList.drop (n+1))=(none,t)) :
  ∃n' c f,n'<=s.size+1/\∀{w:World},RfW w R s n d e g A code->Calls Tryz.prog 160 #[.pointer (some ⟨R,0,none⟩)] w (RetX w R s n' d e g A code c f false):=by
 by_cases h1:n+1<s.size
 ·have hl1:n+1<s.data.toList.length:=by simpa using h1
  rw[List.drop_eq_getElem_cons hl1] at hx;have e1:s.data.toList[n+1]=s[n+1]:=rfl;rw[e1] at hx;simp only[escS] at hx;cases hnm:namedB (s[n+1].toNat) with
  | some F=>rw[hnm] at hx;simp at hx
  | none=>
   rw[hnm] at hx;cases hal:alnB (s[n+1].toNat)
   ·rw[isWord_aln,hal] at hx;simp at hx
   ·refine ⟨n+2,s[n+1].toNat,noB,by omega,λ{W} hW=>?_⟩;have:=stroke_byte hW hs h1 hnm;rw[hal] at this;exact this
 ·exact ⟨n,0,noB,by omega,λhW=>stroke_end hW hs (by omega)⟩
theorem stroke_some {w:World} {R n d e g:Nat} {s:ByteArray} {A:Option Addr} {code:List In} (h:RfW w R s n d e g A code) (hs:(s.size:Int)<=4096) (hn:n<s.size) {f:Bs} {t:List UInt8} (hx:escS (s.data.toList.drop (n+1))=(some f,t)) :
  ∃c m,c<256/\s.data.toList.drop (n+2)=t/\n+2<=s.size/\(m=noB/\f=oneB c\/∃c',namedB c'=some f/\m=f)/\∀{w:World},RfW w R s n d e g A code->Calls Tryz.prog 160 #[.pointer (some ⟨R,0,none⟩)] w (RetX w R s (n+2) d e g A code c m true):=by
 by_cases h1:n+1<s.size
 ·have hl1:n+1<s.data.toList.length:=by simpa using h1
  rw[List.drop_eq_getElem_cons hl1] at hx;have e1:s.data.toList[n+1]=s[n+1]:=rfl;rw[e1] at hx;simp only[escS] at hx;cases hnm:namedB (s[n+1].toNat) with
  | some F=>
   rw[hnm] at hx;simp only[Prod.mk.injEq,Option.some.injEq] at hx;obtain ⟨rfl,rfl⟩:=hx;exact ⟨0,_,by omega,rfl,by omega, .inr ⟨_,hnm,rfl⟩,λhW=>stroke_named hW hs h1 hnm⟩
  | none=>
   rw[hnm] at hx;cases hal:alnB (s[n+1].toNat)
   ·rw[isWord_aln,hal] at hx;simp only[cond_false,Prod.mk.injEq,Option.some.injEq] at hx;obtain ⟨rfl,rfl⟩:=hx;refine ⟨s[n+1].toNat,noB,s[n+1].toNat_lt,rfl,by omega, .inl ⟨rfl,rfl⟩,λ{W} hW=>?_⟩;have:=stroke_byte hW hs h1 hnm;rw[hal] at this;exact this
   ·rw[isWord_aln,hal] at hx;simp at hx
 ·rw[List.drop_eq_nil_of_le (by simp;omega)] at hx;simp[escS] at hx
theorem rset_dot {w:World} {R n d e g:Nat} {s:ByteArray} {A:Option Addr} {code:List In} (h:RfW w R s n d e g A code) (hs:(s.size:Int)<=4096) (hn:n<s.size) (h46:s[n].toNat=46):Calls Tryz.prog 150 #[.pointer (some ⟨R,0,none⟩)] w (RetK w R s d e g A code (some (notB (oneB 10)),s.data.toList.drop (n+1))):=by
 have hRw:=h.lt;have hAw:∀k,blk A=some k->k<w.heap.size:=λk hk=>(h.row k hk).2;obtain ⟨hz0,hsz0⟩:=zero_of_info info_arr;have C0:CQ R w noB s n d e g A code ((w.alloc (Obj.cells (bsA noB) 215)).alloc (Obj.cells (bsA noB) 215)):=CQ.start h;have hn3:(n:Int)<(s.size:Int):=by omega
 have hn4:(n:Int)<4096:=by omega
 have hq46:((s[n].toNat:Int)==46)=true:=by simp;omega
 clear h;go_enter Tryz.func150,Tryz.ntmps150;go_upto_region 2 with (fail)
 generalize ((w.alloc (Obj.cells (bsA noB) 215)).alloc (Obj.cells (bsA noB) 215))=w1 at C0 ⊢;have hz:R<w1.heap.size:=C0.r.lt;obtain ⟨cc1,hc1⟩:=id C0.r;obtain ⟨c0,c1⟩:=And.intro hc1.c0 hc1.c1;clear hc1;refine region_Q (by kernel_rfl) (by kernel_rfl) ?_;(iterate 3 refine qv ?_);refine qv ?_ (h:=λW hW=>by have q0:=bc hW hz c0;go_simp<;>rfl);(iterate 3 refine qv ?_);refine qv ?_ (h:=λW hW=>by have q1:=bc hW hz c1;go_simp<;>rfl);(iterate 2 refine qv ?_);refine wpQuiet_nil ?_;intro w2 hw2;have C2:=C0.gr hw2;clear C0 c0 c1 hw2 hz;obtain ⟨cc2,hc2⟩:=id C2.r;obtain ⟨c1,f1⟩:=And.intro hc2.c1 hc2.f1;clear hc2;go_upto_region 5 with (fail)
 have C3:=C2.rd (GX.setCell (p:=⟨R,1,none⟩) (GX.refl R w2) (.inl rfl) (.int .i64 ((n:Int)+1))) (by have t:=C2.r.setAt (n+1);rwa [show ((n+1:Nat):Int)=(n:Int)+1 by omega] at t) hRw;clear C2 c1 f1;generalize w2.setCell ⟨R,1,none⟩ (.int .i64 ((n:Int)+1))=w3 at C3 ⊢;go_wp2_with (fail)
 go_loopw [6] (λi wr=>∃j:Nat,j<=256/\i= .int .i64 j/\CQ R w (λq=>bif decide (q<j) then !(q==10) else false) s (n+1) d e g A code wr) (λi _=>256-(intOf i).toNat)
 case atStart=>exact ⟨0,by omega,rfl,C3.x,C3.b,C3.a.eq λi _=>by simp[noB],C3.r⟩
 case round=>
  clear C3;obtain ⟨j,hj,rfl,C3⟩:=hrel;by_cases hlt:j<256
  ·have h3:(j:Int)<256:=by omega
   have hcell:=C3.a.cell hlt;rw[show (bif decide (j<j) then !(j==10) else false)=false by simp] at hcell;have hf:=C3.a.free j;have HC3:=Lib.hid C3;have hst:∀v,(!(j==10))=v->∀q,q<256->(bif q==j then v else (bif decide (q<j) then !(q==10) else false))=(bif decide (q<j+1) then !(q==10) else false):=λv hv q _=>by
    by_cases hq:q=j
    ·subst hq;simp[hv]
    ·have e1:(q==j)=false:=by simpa using hq
     have e2:decide (q<j+1)=decide (q<j):=by rw[decide_eq_decide];omega
     simp only[e1,cond_false,e2]
   have Hst:=Lib.hid hst;clear hst C3;by_cases h10:j=10
   ·have hjq:((j:Int)==10)=true:=by simp;omega
    have Hv:=Lib.hid (show (!(j==10))=((j:Int) != 10) by rw[bne,hjq];simp[h10]);clear h10;go_wp2_with (fail);go_roundw;case rel=>exact ⟨j+1,by omega,by go_num,HC3.out.cell hRw j _ hAw (Hst.out _ Hv.out)⟩
    case measure=>simp[intOf];omega
   ·have hjq:((j:Int)==10)=false:=beq_eq_false_iff_ne.2 (by omega);have Hv:=Lib.hid (show (!(j==10))=((j:Int) != 10) by rw[bne,hjq];simp[h10]);clear h10;go_wp2_with (fail);go_roundw;case rel=>exact ⟨j+1,by omega,by go_num,HC3.out.cell hRw j _ hAw (Hst.out _ Hv.out)⟩
    case measure=>simp[intOf];omega
  ·have hj':j=256:=by omega
   subst hj';have ca':SetQ wr (w.heap.size+1) (notB (oneB 10)):=C3.a.eq λi hi=>by simp[hi,notB,oneB]
   go_wp2_with (first
    | (refine wpList_load_row rfl 215 (.tmp 4) rfl ((w.heap.size+1)) rfl _ (bsA (notB (oneB 10))) (0,0) _ ca' und_arr rfl (size_bsQ _) ?_)
    | (refine wpList_store_row rfl 215 (.tmp 2) (.tmp 37) rfl (w.heap.size) (bsA (notB (oneB 10))) rfl rfl _ _ C3.b (size_bsQ _) (by simp only[bsA_size]) (bsA_one _) ?_))
   refine bodyPost_ret (v:= .tuple #[.agg (bsA (notB (oneB 10))), .bool true]) (res_arr2 _ 2 3 (by kernel_rfl) _ _ w.heap.size _ _ rfl rfl (SetQ.row C3.b)) rfl ?_;exact ⟨_,n+1,rfl,C3.r.row' (by omega) (λe=>by have:=hAw _ e;omega),C3.x.setRow (.inr (Nat.le_refl _)) _,by omega,λF hF=>by injection hF with hF;exact ⟨hF,rfl,by omega⟩⟩
theorem rset_class {w:World} {R n d e g:Nat} {s:ByteArray} {A:Option Addr} {code:List In} (h:RfW w R s n d e g A code) (hs:(s.size:Int)<=4096) (hn:n<s.size) (h91:s[n].toNat=91):Calls Tryz.prog 150 #[.pointer (some ⟨R,0,none⟩)] w (RetK w R s d e g A code (classS (s.data.toList.drop (n+1)))):=by
 obtain ⟨T,hT⟩:∃T,classS (s.data.toList.drop (n+1))=T:=⟨_,rfl⟩
 have HCL:=Lib.hid (λ(W:World) (hW:RfW W R s n d e g A code)=>rclass_any hW hs hn);rw[hT] at HCL ⊢;clear hT;have hRw:=h.lt;have hAw:∀k,blk A=some k->k<w.heap.size:=λk hk=>(h.row k hk).2;obtain ⟨hz0,hsz0⟩:=zero_of_info info_arr;have C0:CQ R w noB s n d e g A code ((w.alloc (Obj.cells (bsA noB) 215)).alloc (Obj.cells (bsA noB) 215)):=CQ.start h;have hn3:(n:Int)<(s.size:Int):=by omega
 have hn4:(n:Int)<4096:=by omega
 have hq46:((s[n].toNat:Int)==46)=false:=by simp;omega
 have hq91:((s[n].toNat:Int)==91)=true:=by simp;omega
 clear h;go_enter Tryz.func150,Tryz.ntmps150;go_upto_region 2 with (fail)
 generalize ((w.alloc (Obj.cells (bsA noB) 215)).alloc (Obj.cells (bsA noB) 215))=w1 at C0 ⊢;have hz:R<w1.heap.size:=C0.r.lt;obtain ⟨cc1,hc1⟩:=id C0.r;obtain ⟨c0,c1⟩:=And.intro hc1.c0 hc1.c1;clear hc1;refine region_Q (by kernel_rfl) (by kernel_rfl) ?_;(iterate 3 refine qv ?_);refine qv ?_ (h:=λW hW=>by have q0:=bc hW hz c0;go_simp<;>rfl);(iterate 3 refine qv ?_);refine qv ?_ (h:=λW hW=>by have q1:=bc hW hz c1;go_simp<;>rfl);(iterate 2 refine qv ?_);refine wpQuiet_nil ?_;intro w2 hw2;have C2:=C0.gr hw2;clear C0 c0 c1 hw2 hz;go_wp2_with (first
  | (go_at_call 159;refine (HCL.out _ C2.r).mono ?_;rintro x w3 ⟨f,n',rfl,h3,x3,hn',hF⟩;have C3:=C2.rd x3 h3 hRw;have HFF:=Lib.hid hF;clear hF)
  | (refine wpList_store_row rfl 215 (.tmp 2) (.tmp 43) rfl (w.heap.size) (bsA (f)) rfl rfl _ _ C3.b (size_bsQ _) (by simp only[bsA_size]) (bsA_one _) ?_))
 refine bodyPost_ret (v:= .tuple #[.agg (bsA f), .bool T.1.isSome]) (res_arr2 _ 2 3 (by kernel_rfl) _ _ w.heap.size _ _ rfl rfl (SetQ.row C3.b)) rfl ?_;exact ⟨f,n',rfl,C3.r.row' (by omega) (λe=>by have:=hAw _ e;omega),C3.x.setRow (.inr (Nat.le_refl _)) _,hn',HFF.out⟩
theorem rset_stroke0 {w:World} {R n d e g:Nat} {s:ByteArray} {A:Option Addr} {code:List In} (h:RfW w R s n d e g A code) (hs:(s.size:Int)<=4096) (hn:n<s.size) (h92:s[n].toNat=92) {n' c:Nat} {f:Bs} (hn':n'<=s.size+1) {t:List UInt8} (HS0:∀{w:World},RfW w R s n d e g A code->Calls Tryz.prog 160 #[.pointer (some ⟨R,0,none⟩)] w (RetX w R s n' d e g A code c f false)):Calls Tryz.prog 150 #[.pointer (some ⟨R,0,none⟩)] w (RetK w R s d e g A code (none,t)):=by
 have HS:Hid (∀W,RfW W R s n d e g A code->Calls Tryz.prog 160 #[.pointer (some ⟨R,0,none⟩)] W (RetX W R s n' d e g A code c f false)):=Lib.hid λW hW=>HS0 hW;clear HS0;have hRw:=h.lt;have hAw:∀k,blk A=some k->k<w.heap.size:=λk hk=>(h.row k hk).2;obtain ⟨hz0,hsz0⟩:=zero_of_info info_arr;have C0:CQ R w noB s n d e g A code ((w.alloc (Obj.cells (bsA noB) 215)).alloc (Obj.cells (bsA noB) 215)):=CQ.start h;have hn3:(n:Int)<(s.size:Int):=by omega
 have hn4:(n:Int)<4096:=by omega
 have hq46:((s[n].toNat:Int)==46)=false:=by simp;omega
 have hq91:((s[n].toNat:Int)==91)=false:=by simp;omega
 have hq92:((s[n].toNat:Int)==92)=true:=by simp;omega
 clear h;go_enter Tryz.func150,Tryz.ntmps150;go_upto_region 2 with (fail)
 generalize ((w.alloc (Obj.cells (bsA noB) 215)).alloc (Obj.cells (bsA noB) 215))=w1 at C0 ⊢;have hz:R<w1.heap.size:=C0.r.lt;obtain ⟨cc1,hc1⟩:=id C0.r;obtain ⟨c0,c1⟩:=And.intro hc1.c0 hc1.c1;clear hc1;refine region_Q (by kernel_rfl) (by kernel_rfl) ?_;(iterate 3 refine qv ?_);refine qv ?_ (h:=λW hW=>by have q0:=bc hW hz c0;go_simp<;>rfl);(iterate 3 refine qv ?_);refine qv ?_ (h:=λW hW=>by have q1:=bc hW hz c1;go_simp<;>rfl);(iterate 2 refine qv ?_);refine wpQuiet_nil ?_;intro w2 hw2;have C2:=C0.gr hw2;clear C0 c0 c1 hw2 hz;go_upto_region 15 with (first
  | (go_at_call 160;refine (HS.out _ C2.r).mono ?_;rintro x w5 ⟨rfl,h5,x5⟩;have C5:=C2.rd x5 h5 hRw;have zg:w.heap.size+1<w5.heap.size:=C5.a.lt;have hzg:w5.heap.size≠R:=(by omega))
  | (refine wpList_store_row rfl 215 (.tmp 8) (.tmp 52) rfl w5.heap.size (bsA f) rfl rfl _ _ (SetQ.new w5 noB) (size_bsQ _) (by simp only[bsA_size]) (bsA_one _) ?_;have C6:=C5.gr (Gr.setRow (Gr.alloc (Gr.refl w5) (.cells (bsA noB) 215)) (g:=w5.heap.size) (Nat.le_refl _) (bsA f));have hX6:SetQ ((w5.alloc (.cells (bsA noB) 215)).setRow w5.heap.size (bsA f)) w5.heap.size f:=SetQ.row (SetQ.new w5 noB)))
 clear C5 x5 h5 C2;generalize (w5.alloc (.cells (bsA noB) 215)).setRow w5.heap.size (bsA f)=w6 at C6 hX6 ⊢;obtain ⟨gx,hgx⟩:∃gx,gx=w5.heap.size:=⟨_,rfl⟩
 rw[<-hgx] at zg hzg hX6 ⊢;clear hgx;go_wp2_with (first
  | (refine wpList_load_row rfl 215 (.tmp 4) rfl ((w.heap.size+1)) rfl _ (bsA (noB)) (0,0) _ C6.a und_arr rfl (size_bsQ _) ?_)
  | (refine wpList_store_row rfl 215 (.tmp 2) (.tmp 56) rfl (w.heap.size) (bsA (noB)) rfl rfl _ _ C6.b (size_bsQ _) (by simp only[bsA_size]) (bsA_one _) ?_))
 refine bodyPost_ret (v:= .tuple #[.agg (bsA (noB)), .bool false]) (res_arr2 _ 2 3 (by kernel_rfl) _ _ w.heap.size _ _ rfl rfl (SetQ.row C6.b)) rfl ?_;exact ⟨_,n',rfl,C6.r.row' (by omega) (λe=>by have:=hAw _ e;omega),C6.x.setRow (.inr (Nat.le_refl _)) _,hn',λF hF=>by cases hF⟩
theorem rset_stroke1 {w:World} {R n d e g:Nat} {s:ByteArray} {A:Option Addr} {code:List In} (h:RfW w R s n d e g A code) (hs:(s.size:Int)<=4096) (hn:n<s.size) (h92:s[n].toNat=92) {c c':Nat} {f:Bs} (hn2:n+2<=s.size) {t:List UInt8} (ht:s.data.toList.drop (n+2)=t) (hnm:namedB c'=some f) (HS0:∀{w:World},RfW w R s n d e g A code->Calls Tryz.prog 160 #[.pointer (some ⟨R,0,none⟩)] w (RetX w R s (n+2) d e g A code c f true)):Calls Tryz.prog 150 #[.pointer (some ⟨R,0,none⟩)] w (RetK w R s d e g A code (some f,t)):=by
 have HS:Hid (∀W,RfW W R s n d e g A code->Calls Tryz.prog 160 #[.pointer (some ⟨R,0,none⟩)] W (RetX W R s (n+2) d e g A code c f true)):=Lib.hid λW hW=>HS0 hW;have hqn:=λW=>eqn_some hnm W;have Ht:=Lib.hid ht;clear HS0 hnm ht;have hRw:=h.lt;have hAw:∀k,blk A=some k->k<w.heap.size:=λk hk=>(h.row k hk).2;obtain ⟨hz0,hsz0⟩:=zero_of_info info_arr;have C0:CQ R w noB s n d e g A code ((w.alloc (Obj.cells (bsA noB) 215)).alloc (Obj.cells (bsA noB) 215)):=CQ.start h;have hn3:(n:Int)<(s.size:Int):=by omega
 have hn4:(n:Int)<4096:=by omega
 have hq46:((s[n].toNat:Int)==46)=false:=by simp;omega
 have hq91:((s[n].toNat:Int)==91)=false:=by simp;omega
 have hq92:((s[n].toNat:Int)==92)=true:=by simp;omega
 clear h;go_enter Tryz.func150,Tryz.ntmps150;go_upto_region 2 with (fail)
 generalize ((w.alloc (Obj.cells (bsA noB) 215)).alloc (Obj.cells (bsA noB) 215))=w1 at C0 ⊢;have hz:R<w1.heap.size:=C0.r.lt;obtain ⟨cc1,hc1⟩:=id C0.r;obtain ⟨c0,c1⟩:=And.intro hc1.c0 hc1.c1;clear hc1;refine region_Q (by kernel_rfl) (by kernel_rfl) ?_;(iterate 3 refine qv ?_);refine qv ?_ (h:=λW hW=>by have q0:=bc hW hz c0;go_simp<;>rfl);(iterate 3 refine qv ?_);refine qv ?_ (h:=λW hW=>by have q1:=bc hW hz c1;go_simp<;>rfl);(iterate 2 refine qv ?_);refine wpQuiet_nil ?_;intro w2 hw2;have C2:=C0.gr hw2;clear C0 c0 c1 hw2 hz;go_upto_region 16 with (first
  | (go_at_call 160;refine (HS.out _ C2.r).mono ?_;rintro x w5 ⟨rfl,h5,x5⟩;have C5:=C2.rd x5 h5 hRw;have zg:w.heap.size+1<w5.heap.size:=C5.a.lt;have hzg:w5.heap.size≠R:=(by omega))
  | (refine wpList_store_row rfl 215 (.tmp 8) (.tmp 52) rfl w5.heap.size (bsA f) rfl rfl _ _ (SetQ.new w5 noB) (size_bsQ _) (by simp only[bsA_size]) (bsA_one _) ?_;have C6:=C5.gr (Gr.setRow (Gr.alloc (Gr.refl w5) (.cells (bsA noB) 215)) (g:=w5.heap.size) (Nat.le_refl _) (bsA f));have hX6:SetQ ((w5.alloc (.cells (bsA noB) 215)).setRow w5.heap.size (bsA f)) w5.heap.size f:=SetQ.row (SetQ.new w5 noB)))
 clear C5 x5 h5 C2;generalize (w5.alloc (.cells (bsA noB) 215)).setRow w5.heap.size (bsA f)=w6 at C6 hX6 ⊢;obtain ⟨gx,hgx⟩:∃gx,gx=w5.heap.size:=⟨_,rfl⟩
 rw[<-hgx] at zg hzg hX6 ⊢;clear hgx;go_wp2_with (first
  | (refine wpList_load_row rfl 215 (.tmp 8) rfl (gx) rfl _ (bsA (f)) (0,0) _ hX6 und_arr rfl (size_bsQ _) ?_)
  | (refine wpList_store_row rfl 215 (.tmp 2) (.tmp 60) rfl (w.heap.size) (bsA (f)) rfl rfl _ _ C6.b (size_bsQ _) (by simp only[bsA_size]) (bsA_one _) ?_))
 refine bodyPost_ret (v:= .tuple #[.agg (bsA (f)), .bool true]) (res_arr2 _ 2 3 (by kernel_rfl) _ _ w.heap.size _ _ rfl rfl (SetQ.row C6.b)) rfl ?_;exact ⟨_,n+2,rfl,C6.r.row' (by omega) (λe=>by have:=hAw _ e;omega),C6.x.setRow (.inr (Nat.le_refl _)) _,by omega,λF hF=>by injection hF with hF;exact ⟨hF,Ht.out,by omega⟩⟩
theorem rset_stroke2 {w:World} {R n d e g:Nat} {s:ByteArray} {A:Option Addr} {code:List In} (h:RfW w R s n d e g A code) (hs:(s.size:Int)<=4096) (hn:n<s.size) (h92:s[n].toNat=92) {c:Nat} (hc:c<256) (hn2:n+2<=s.size) {t:List UInt8} (ht:s.data.toList.drop (n+2)=t) (HS0:∀{w:World},RfW w R s n d e g A code->Calls Tryz.prog 160 #[.pointer (some ⟨R,0,none⟩)] w (RetX w R s (n+2) d e g A code c noB true)):Calls Tryz.prog 150 #[.pointer (some ⟨R,0,none⟩)] w (RetK w R s d e g A code (some (oneB c),t)):=by
 have HS:Hid (∀W,RfW W R s n d e g A code->Calls Tryz.prog 160 #[.pointer (some ⟨R,0,none⟩)] W (RetX W R s (n+2) d e g A code c noB true)):=Lib.hid λW hW=>HS0 hW;have hqn:=λW=>eqn_none W;have hc3:(c:Int)<256:=by omega
 have Ht:=Lib.hid ht;clear HS0 ht;have hRw:=h.lt;have hAw:∀k,blk A=some k->k<w.heap.size:=λk hk=>(h.row k hk).2;obtain ⟨hz0,hsz0⟩:=zero_of_info info_arr;have C0:CQ R w noB s n d e g A code ((w.alloc (Obj.cells (bsA noB) 215)).alloc (Obj.cells (bsA noB) 215)):=CQ.start h;have hn3:(n:Int)<(s.size:Int):=by omega
 have hn4:(n:Int)<4096:=by omega
 have hq46:((s[n].toNat:Int)==46)=false:=by simp;omega
 have hq91:((s[n].toNat:Int)==91)=false:=by simp;omega
 have hq92:((s[n].toNat:Int)==92)=true:=by simp;omega
 clear h;go_enter Tryz.func150,Tryz.ntmps150;go_upto_region 2 with (fail)
 generalize ((w.alloc (Obj.cells (bsA noB) 215)).alloc (Obj.cells (bsA noB) 215))=w1 at C0 ⊢;have hz:R<w1.heap.size:=C0.r.lt;obtain ⟨cc1,hc1⟩:=id C0.r;obtain ⟨c0,c1⟩:=And.intro hc1.c0 hc1.c1;clear hc1;refine region_Q (by kernel_rfl) (by kernel_rfl) ?_;(iterate 3 refine qv ?_);refine qv ?_ (h:=λW hW=>by have q0:=bc hW hz c0;go_simp<;>rfl);(iterate 3 refine qv ?_);refine qv ?_ (h:=λW hW=>by have q1:=bc hW hz c1;go_simp<;>rfl);(iterate 2 refine qv ?_);refine wpQuiet_nil ?_;intro w2 hw2;have C2:=C0.gr hw2;clear C0 c0 c1 hw2 hz;go_upto_region 16 with (first
  | (go_at_call 160;refine (HS.out _ C2.r).mono ?_;rintro x w5 ⟨rfl,h5,x5⟩;have C5:=C2.rd x5 h5 hRw;have zg:w.heap.size+1<w5.heap.size:=C5.a.lt;have hzg:w5.heap.size≠R:=(by omega))
  | (refine wpList_store_row rfl 215 (.tmp 8) (.tmp 52) rfl w5.heap.size (bsA noB) rfl rfl _ _ (SetQ.new w5 noB) (size_bsQ _) (by simp only[bsA_size]) (bsA_one _) ?_;have C6:=C5.gr (Gr.setRow (Gr.alloc (Gr.refl w5) (.cells (bsA noB) 215)) (g:=w5.heap.size) (Nat.le_refl _) (bsA noB));have hX6:SetQ ((w5.alloc (.cells (bsA noB) 215)).setRow w5.heap.size (bsA noB)) w5.heap.size noB:=SetQ.row (SetQ.new w5 noB)))
 clear C5 x5 h5 C2;generalize (w5.alloc (.cells (bsA noB) 215)).setRow w5.heap.size (bsA noB)=w6 at C6 hX6 ⊢;obtain ⟨gx,hgx⟩:∃gx,gx=w5.heap.size:=⟨_,rfl⟩
 rw[<-hgx] at zg hzg hX6 ⊢;clear hgx;have hcell:=C6.a.cell hc;have hf:=C6.a.free c;simp only[noB] at hcell;go_upto_region 19 with ((refine wpList_load_row rfl 215 (.tmp 8) rfl (gx) rfl _ (bsA (noB)) (0,0) _ hX6 und_arr rfl (size_bsQ _) ?_))
 have C7:CQ R w (oneB c) s (n+2) d e g A code (w6.setCell ⟨w.heap.size+1,c,none⟩ (.bool true)):=C6.cell hRw c true hAw λj _=>by simp only[oneB,noB];cases (j==c)<;>rfl
 generalize w6.setCell ⟨w.heap.size+1,c,none⟩ (.bool true)=w7 at C7 ⊢;clear C6 hcell hf hX6 hqn;go_wp2_with (first
  | (refine wpList_load_row rfl 215 (.tmp 4) rfl ((w.heap.size+1)) rfl _ (bsA (oneB c)) (0,0) _ C7.a und_arr rfl (size_bsQ _) ?_)
  | (refine wpList_store_row rfl 215 (.tmp 2) (.tmp 63) rfl (w.heap.size) (bsA (oneB c)) rfl rfl _ _ C7.b (size_bsQ _) (by simp only[bsA_size]) (bsA_one _) ?_))
 refine bodyPost_ret (v:= .tuple #[.agg (bsA (oneB c)), .bool true]) (res_arr2 _ 2 3 (by kernel_rfl) _ _ w.heap.size _ _ rfl rfl (SetQ.row C7.b)) rfl ?_;exact ⟨_,n+2,rfl,C7.r.row' (by omega) (λe=>by have:=hAw _ e;omega),C7.x.setRow (.inr (Nat.le_refl _)) _,by omega,λF hF=>by injection hF with hF;exact ⟨hF,Ht.out,by omega⟩⟩
theorem rset_special {w:World} {R n d e g:Nat} {s:ByteArray} {A:Option Addr} {code:List In} (h:RfW w R s n d e g A code) (hs:(s.size:Int)<=4096) (hn:n<s.size) (h46:s[n].toNat≠46) (h91:s[n].toNat≠91) (h92:s[n].toNat≠92) (hsp:spcB (s[n].toNat)=true) {t:List UInt8}:Calls Tryz.prog 150 #[.pointer (some ⟨R,0,none⟩)] w (RetK w R s d e g A code (none,t)):=by
 have HSP:Hid (∀W,Calls Tryz.prog 161 #[.int .u8 s[n].toNat] W λx w'=>x= .returned (.bool true)/\W=w'):=Lib.hid λW=>by
  have t:=special_any (s[n].toNat) (s[n].toNat_lt) W;rw[hsp] at t;exact t
 clear hsp;have hRw:=h.lt;have hAw:∀k,blk A=some k->k<w.heap.size:=λk hk=>(h.row k hk).2;obtain ⟨hz0,hsz0⟩:=zero_of_info info_arr;have C0:CQ R w noB s n d e g A code ((w.alloc (Obj.cells (bsA noB) 215)).alloc (Obj.cells (bsA noB) 215)):=CQ.start h;have hn3:(n:Int)<(s.size:Int):=by omega
 have hn4:(n:Int)<4096:=by omega
 have hq46:((s[n].toNat:Int)==46)=false:=by simp;omega
 have hq91:((s[n].toNat:Int)==91)=false:=by simp;omega
 have hq92:((s[n].toNat:Int)==92)=false:=by simp;omega
 clear h;go_enter Tryz.func150,Tryz.ntmps150;go_upto_region 2 with (fail)
 generalize ((w.alloc (Obj.cells (bsA noB) 215)).alloc (Obj.cells (bsA noB) 215))=w1 at C0 ⊢;have hz:R<w1.heap.size:=C0.r.lt;obtain ⟨cc1,hc1⟩:=id C0.r;obtain ⟨c0,c1⟩:=And.intro hc1.c0 hc1.c1;clear hc1;refine region_Q (by kernel_rfl) (by kernel_rfl) ?_;(iterate 3 refine qv ?_);refine qv ?_ (h:=λW hW=>by have q0:=bc hW hz c0;go_simp<;>rfl);(iterate 3 refine qv ?_);refine qv ?_ (h:=λW hW=>by have q1:=bc hW hz c1;go_simp<;>rfl);(iterate 2 refine qv ?_);refine wpQuiet_nil ?_;intro w2 hw2;have C2:=C0.gr hw2;clear C0 c0 c1 hw2 hz;go_upto_region 21 with (go_at_call 161;refine (HSP.out _).mono ?_;rintro x w9 ⟨rfl,rfl⟩)
 go_wp2_with (first
  | (refine wpList_load_row rfl 215 (.tmp 4) rfl ((w.heap.size+1)) rfl _ (bsA (noB)) (0,0) _ C2.a und_arr rfl (size_bsQ _) ?_)
  | (refine wpList_store_row rfl 215 (.tmp 2) (.tmp 67) rfl (w.heap.size) (bsA (noB)) rfl rfl _ _ C2.b (size_bsQ _) (by simp only[bsA_size]) (bsA_one _) ?_))
 refine bodyPost_ret (v:= .tuple #[.agg (bsA (noB)), .bool false]) (res_arr2 _ 2 3 (by kernel_rfl) _ _ w.heap.size _ _ rfl rfl (SetQ.row C2.b)) rfl ?_;exact ⟨_,n,rfl,C2.r.row' (by omega) (λe=>by have:=hAw _ e;omega),C2.x.setRow (.inr (Nat.le_refl _)) _,by omega,λF hF=>by cases hF⟩
theorem rset_plain {w:World} {R n d e g:Nat} {s:ByteArray} {A:Option Addr} {code:List In} (h:RfW w R s n d e g A code) (hs:(s.size:Int)<=4096) (hn:n<s.size) (h46:s[n].toNat≠46) (h91:s[n].toNat≠91) (h92:s[n].toNat≠92) (hsp:spcB (s[n].toNat)=false):Calls Tryz.prog 150 #[.pointer (some ⟨R,0,none⟩)] w (RetK w R s d e g A code (some (oneB s[n].toNat),s.data.toList.drop (n+1))):=by
 have HSP:Hid (∀W,Calls Tryz.prog 161 #[.int .u8 s[n].toNat] W λx w'=>x= .returned (.bool false)/\W=w'):=Lib.hid λW=>by
  have t:=special_any (s[n].toNat) (s[n].toNat_lt) W;rw[hsp] at t;exact t
 clear hsp;have hc:s[n].toNat<256:=s[n].toNat_lt;have hc3:((s[n].toNat:Nat):Int)<256:=by omega
 have hRw:=h.lt;have hAw:∀k,blk A=some k->k<w.heap.size:=λk hk=>(h.row k hk).2;obtain ⟨hz0,hsz0⟩:=zero_of_info info_arr;have C0:CQ R w noB s n d e g A code ((w.alloc (Obj.cells (bsA noB) 215)).alloc (Obj.cells (bsA noB) 215)):=CQ.start h;have hn3:(n:Int)<(s.size:Int):=by omega
 have hn4:(n:Int)<4096:=by omega
 have hq46:((s[n].toNat:Int)==46)=false:=by simp;omega
 have hq91:((s[n].toNat:Int)==91)=false:=by simp;omega
 have hq92:((s[n].toNat:Int)==92)=false:=by simp;omega
 clear h;go_enter Tryz.func150,Tryz.ntmps150;go_upto_region 2 with (fail)
 generalize ((w.alloc (Obj.cells (bsA noB) 215)).alloc (Obj.cells (bsA noB) 215))=w1 at C0 ⊢;have hz:R<w1.heap.size:=C0.r.lt;obtain ⟨cc1,hc1⟩:=id C0.r;obtain ⟨c0,c1⟩:=And.intro hc1.c0 hc1.c1;clear hc1;refine region_Q (by kernel_rfl) (by kernel_rfl) ?_;(iterate 3 refine qv ?_);refine qv ?_ (h:=λW hW=>by have q0:=bc hW hz c0;go_simp<;>rfl);(iterate 3 refine qv ?_);refine qv ?_ (h:=λW hW=>by have q1:=bc hW hz c1;go_simp<;>rfl);(iterate 2 refine qv ?_);refine wpQuiet_nil ?_;intro w2 hw2;have C2:=C0.gr hw2;clear C0 c0 c1 hw2 hz;obtain ⟨cc2,hc2⟩:=id C2.r;obtain ⟨c1,f1⟩:=And.intro hc2.c1 hc2.f1;clear hc2;go_upto_region 23 with (go_at_call 161;refine (HSP.out _).mono ?_;rintro x w9 ⟨rfl,rfl⟩)
 have C3:=C2.rd (GX.setCell (p:=⟨R,1,none⟩) (GX.refl R w2) (.inl rfl) (.int .i64 ((n:Int)+1))) (by have t:=C2.r.setAt (n+1);rwa [show ((n+1:Nat):Int)=(n:Int)+1 by omega] at t) hRw;clear C2 c1 f1;generalize w2.setCell ⟨R,1,none⟩ (.int .i64 ((n:Int)+1))=w3 at C3 ⊢;have hcell:=C3.a.cell hc;have hf:=C3.a.free s[n].toNat;simp only[noB] at hcell;go_upto_region 24 with (fail)
 have C7:CQ R w (oneB s[n].toNat) s (n+1) d e g A code (w3.setCell ⟨w.heap.size+1,s[n].toNat,none⟩ (.bool true)):=C3.cell hRw s[n].toNat true hAw λj _=>by simp only[oneB,noB];cases (j==s[n].toNat)<;>rfl
 generalize w3.setCell ⟨w.heap.size+1,s[n].toNat,none⟩ (.bool true)=w7 at C7 ⊢;clear C3 hcell hf;go_wp2_with (first
  | (refine wpList_load_row rfl 215 (.tmp 4) rfl ((w.heap.size+1)) rfl _ (bsA (oneB s[n].toNat)) (0,0) _ C7.a und_arr rfl (size_bsQ _) ?_)
  | (refine wpList_store_row rfl 215 (.tmp 2) (.tmp 77) rfl (w.heap.size) (bsA (oneB s[n].toNat)) rfl rfl _ _ C7.b (size_bsQ _) (by simp only[bsA_size]) (bsA_one _) ?_))
 refine bodyPost_ret (v:= .tuple #[.agg (bsA (oneB s[n].toNat)), .bool true]) (res_arr2 _ 2 3 (by kernel_rfl) _ _ w.heap.size _ _ rfl rfl (SetQ.row C7.b)) rfl ?_;exact ⟨_,n+1,rfl,C7.r.row' (by omega) (λe=>by have:=hAw _ e;omega),C7.x.setRow (.inr (Nat.le_refl _)) _,by omega,λF hF=>by injection hF with hF;exact ⟨hF,rfl,by omega⟩⟩
theorem rset_any {w:World} {R n d e g:Nat} {s:ByteArray} {A:Option Addr} {code:List In} (h:RfW w R s n d e g A code) (hs:(s.size:Int)<=4096) (hn:n<s.size):Calls Tryz.prog 150 #[.pointer (some ⟨R,0,none⟩)] w (RetK w R s d e g A code (bytesS (s[n].toNat) (s.data.toList.drop (n+1)))):=by
 unfold bytesS;by_cases h46:s[n].toNat=46
 ·rw[beq_iff_eq.2 h46,cond_true];exact rset_dot h hs hn h46
 rw[beq_eq_false_iff_ne.2 h46,cond_false];by_cases h91:s[n].toNat=91
 ·rw[beq_iff_eq.2 h91,cond_true];exact rset_class h hs hn h91
 rw[beq_eq_false_iff_ne.2 h91,cond_false];by_cases h92:s[n].toNat=92
 ·rw[beq_iff_eq.2 h92,cond_true];rcases hx:escS (s.data.toList.drop (n+1)) with ⟨_|f,t⟩
  ·obtain ⟨n',c,f,hn',HS⟩:=stroke_none h hs hn hx;exact rset_stroke0 h hs hn h92 hn' HS
  ·obtain ⟨c,m,hc,ht,hn2,hm,HS⟩:=stroke_some h hs hn hx;rcases hm with ⟨rfl,rfl⟩|⟨c',hnm,rfl⟩
   ·exact rset_stroke2 h hs hn h92 hc hn2 ht HS
   ·exact rset_stroke1 h hs hn h92 hn2 ht hnm HS
 rw[beq_eq_false_iff_ne.2 h92,cond_false];cases hsp:spcB (s[n].toNat)
 ·exact rset_plain h hs hn h46 h91 h92 hsp
 ·exact rset_special h hs hn h46 h91 h92 hsp
def errE (q:Rs):Nat:=bif q.over then 12 else bif q.bad then 8 else 0
def RfS (w:World) (R:Nat) (s:ByteArray) (n:Nat) (q:Rs) (A:Option Addr) (code:List In):Prop:=
 RfW w R s n q.deep 0 q.groups A code/\s.data.toList.drop n=q.rest/\n<=s.size
def RetR (w:World) (R:Nat) (s:ByteArray) (q:Rs) (A:Option Addr) (code:List In) (p:Pc) (q':Rs) (x:Ending) (w':World):Prop:=
 x= .returned (.tuple #[])/\∃n' d' g' A' code',RfW w' R s n' d' (errE q') g' A' code'/\WX R w (blk A) w' (blk A')/\
  (code.length<=code'.length/\code'.length+2*(bif q'.bad then 0 else q'.rest.length)<=code.length+2*q.rest.length)/\
  (q'.bad=false->q'.over=false/\code'=code++p.lay code.length/\s.data.toList.drop n'=q'.rest/\n'<=s.size/\d'=q'.deep/\g'=q'.groups)
theorem RfS.gr {w w':World} {R n:Nat} {s:ByteArray} {q:Rs} {A:Option Addr} {code:List In} (h:RfS w R s n q A code) (g:Gr w w'):RfS w' R s n q A code:=⟨h.1.gr g,h.2⟩
theorem spc_stop (c:Nat) (h1:c≠40) (h2:c≠94) (h3:c≠36) (h4:c≠46) (h5:c≠91) (h6:c≠92):spcB c=stopC c:=by
 have e:∀k:Nat,c≠k->(c==k)=false:=λk h=>beq_eq_false_iff_ne.2 h;have e':∀k:Nat,c≠k->(k==c)=false:=λk h=>beq_eq_false_iff_ne.2 (Ne.symm h);rw[Bool.eq_iff_iff];simp only[spcB,spcL,stopC,List.any_cons,List.any_nil,Bool.or_eq_true,beq_iff_eq,Bool.or_false];simp;omega
theorem WX.of_gx {B:Nat} {w w':World} (h:GX B w w') (g:Option Nat):WX B w g w' g:=⟨h.os,h.tape,h.output,h.size,λk hk hn _=>h.block k hk hn,λ_ h=> .inl h⟩
theorem ratom_group {w:World} {R n:Nat} {s:ByteArray} {A:Option Addr} {code:List In} {q:Rs} (h:RfS w R s n q A code) (hs:(s.size:Int)<=4096) {c:UInt8} {r:List UInt8} (hq:q.rest=c::r) (h40:c.toNat=40) (hqb:q.over=false) (P:Pc) (t:Rs) (HG:∀W,RfS W R s n q A code->Calls Tryz.prog 149 #[.pointer (some ⟨R,0,none⟩)] W (RetR W R s q A code P t)):Calls Tryz.prog 144 #[.pointer (some ⟨R,0,none⟩)] w (RetR w R s q A code (P) (t)):=by
 have HG':=Lib.hid HG;have h0:=h;clear HG;obtain ⟨h,hd, -⟩:=h;have hl0:n<s.data.toList.length:=by
  rcases Nat.lt_or_ge n s.data.toList.length with h1|h1
  ·exact h1
  ·rw[List.drop_eq_nil_of_le h1,hq] at hd;cases hd
 have hn:n<s.size:=by simpa using hl0
 rw[List.drop_eq_getElem_cons hl0,hq] at hd;have hcr:s[n]=c/\s.data.toList.drop (n+1)=r:=by injection hd with a b;exact ⟨a,b⟩
 obtain ⟨rfl,hdr⟩:=hcr;have hn3:(n:Int)<(s.size:Int):=by omega
 have hn4:(n:Int)<4096:=by omega
 clear hd hl0;have hq40:((s[n].toNat:Int)==40)=true:=by simp;omega
 go_enter Tryz.func144,Tryz.ntmps144;go_upto_region 0 with (fail)
 have hz:R<w.heap.size:=h.lt;obtain ⟨cc1,hc1⟩:=id h;obtain ⟨c0,c1⟩:=And.intro hc1.c0 hc1.c1;clear hc1;refine region_Q (by kernel_rfl) (by kernel_rfl) ?_;(iterate 3 refine qv ?_);refine qv ?_ (h:=λW hW=>by have q0:=bc hW hz c0;go_simp<;>rfl);(iterate 3 refine qv ?_);refine qv ?_ (h:=λW hW=>by have q1:=bc hW hz c1;go_simp<;>rfl);(iterate 2 refine qv ?_);refine wpQuiet_nil ?_;intro w2 hw2;have h2:=h.gr hw2;clear c0 c1 hz;have h5:=h0.gr hw2;have x5:=WX.gr (B:=R) (blk A) hw2;clear h h0 h2 hw2;have h6:=Lib.hid h5;clear h5;go_wp2_with (go_at_call 149;refine (HG'.out _ h6.out).mono ?_;rintro x w9 ⟨rfl,n',d',g',A',code',k1,k2,k3⟩);go_end0;exact ⟨rfl,n',d',g',A',code',k1,x5.trans k2,k3⟩
theorem ratom_begin {w:World} {R n:Nat} {s:ByteArray} {A:Option Addr} {code:List In} {q:Rs} (h:RfS w R s n q A code) (hs:(s.size:Int)<=4096) {c:UInt8} {r:List UInt8} (hq:q.rest=c::r) (h94:c.toNat=94) (hqb:q.over=false/\q.bad=false) (hb:code.length<=4000):Calls Tryz.prog 144 #[.pointer (some ⟨R,0,none⟩)] w (RetR w R s q A code (.leaf 5 []) ({q with rest:=r})):=by
 obtain ⟨h,hd, -⟩:=h;have hl0:n<s.data.toList.length:=by
  rcases Nat.lt_or_ge n s.data.toList.length with h1|h1
  ·exact h1
  ·rw[List.drop_eq_nil_of_le h1,hq] at hd;cases hd
 have hn:n<s.size:=by simpa using hl0
 rw[List.drop_eq_getElem_cons hl0,hq] at hd;have hcr:s[n]=c/\s.data.toList.drop (n+1)=r:=by injection hd with a b;exact ⟨a,b⟩
 obtain ⟨rfl,hdr⟩:=hcr;have hn3:(n:Int)<(s.size:Int):=by omega
 have hn4:(n:Int)<4096:=by omega
 clear hd hl0;have hq40:((s[n].toNat:Int)==40)=false:=by simp;omega
 have hq94:((s[n].toNat:Int)==94)=true:=by simp;omega
 go_enter Tryz.func144,Tryz.ntmps144;go_upto_region 0 with (fail)
 have hz:R<w.heap.size:=h.lt;obtain ⟨cc1,hc1⟩:=id h;obtain ⟨c0,c1⟩:=And.intro hc1.c0 hc1.c1;clear hc1;refine region_Q (by kernel_rfl) (by kernel_rfl) ?_;(iterate 3 refine qv ?_);refine qv ?_ (h:=λW hW=>by have q0:=bc hW hz c0;go_simp<;>rfl);(iterate 3 refine qv ?_);refine qv ?_ (h:=λW hW=>by have q1:=bc hW hz c1;go_simp<;>rfl);(iterate 2 refine qv ?_);refine wpQuiet_nil ?_;intro w2 hw2;have h2:=h.gr hw2;clear c0 c1 hz;obtain ⟨cc2,hc2⟩:=id h2;obtain ⟨c1,f1⟩:=And.intro hc2.c1 hc2.f1;clear hc2;go_upto_region 5 with (fail)
 have h3:=h2.setAt (n+1);rw[show ((n+1:Nat):Int)=(n:Int)+1 by omega] at h3;have x3:WX R w (blk A) (w2.setCell ⟨R,1,none⟩ (.int .i64 ((n:Int)+1))) (blk A):=(WX.gr (blk A) hw2).set (p:=⟨R,1,none⟩) (.inl rfl) _;clear h2 c1 f1 hw2 h;generalize w2.setCell ⟨R,1,none⟩ (.int .i64 ((n:Int)+1))=w3 at h3 x3 ⊢;have HL:=Lib.hid (rlay_any h3 5 0 0 [] hb);clear hb;go_wp2_with (go_at_call 62;refine HL.out.mono ?_;rintro x w9 ⟨rfl,A',k1,k2⟩);go_end0;refine ⟨rfl,n+1,_,_,A',_,by simp only[errE,hqb.1,hqb.2,cond_false];exact k1,x3.trans k2,⟨by simp[Pc.lay],by simp[hq,hqb.2,Pc.lay];omega⟩,λ_=>⟨hqb.1,rfl,hdr,by omega,rfl,rfl⟩⟩
theorem ratom_end {w:World} {R n:Nat} {s:ByteArray} {A:Option Addr} {code:List In} {q:Rs} (h:RfS w R s n q A code) (hs:(s.size:Int)<=4096) {c:UInt8} {r:List UInt8} (hq:q.rest=c::r) (h36:c.toNat=36) (hqb:q.over=false/\q.bad=false) (hb:code.length<=4000):Calls Tryz.prog 144 #[.pointer (some ⟨R,0,none⟩)] w (RetR w R s q A code (.leaf 6 []) ({q with rest:=r})):=by
 obtain ⟨h,hd, -⟩:=h;have hl0:n<s.data.toList.length:=by
  rcases Nat.lt_or_ge n s.data.toList.length with h1|h1
  ·exact h1
  ·rw[List.drop_eq_nil_of_le h1,hq] at hd;cases hd
 have hn:n<s.size:=by simpa using hl0
 rw[List.drop_eq_getElem_cons hl0,hq] at hd;have hcr:s[n]=c/\s.data.toList.drop (n+1)=r:=by injection hd with a b;exact ⟨a,b⟩
 obtain ⟨rfl,hdr⟩:=hcr;have hn3:(n:Int)<(s.size:Int):=by omega
 have hn4:(n:Int)<4096:=by omega
 clear hd hl0;have hq40:((s[n].toNat:Int)==40)=false:=by simp;omega
 have hq94:((s[n].toNat:Int)==94)=false:=by simp;omega
 have hq36:((s[n].toNat:Int)==36)=true:=by simp;omega
 go_enter Tryz.func144,Tryz.ntmps144;go_upto_region 0 with (fail)
 have hz:R<w.heap.size:=h.lt;obtain ⟨cc1,hc1⟩:=id h;obtain ⟨c0,c1⟩:=And.intro hc1.c0 hc1.c1;clear hc1;refine region_Q (by kernel_rfl) (by kernel_rfl) ?_;(iterate 3 refine qv ?_);refine qv ?_ (h:=λW hW=>by have q0:=bc hW hz c0;go_simp<;>rfl);(iterate 3 refine qv ?_);refine qv ?_ (h:=λW hW=>by have q1:=bc hW hz c1;go_simp<;>rfl);(iterate 2 refine qv ?_);refine wpQuiet_nil ?_;intro w2 hw2;have h2:=h.gr hw2;clear c0 c1 hz;obtain ⟨cc2,hc2⟩:=id h2;obtain ⟨c1,f1⟩:=And.intro hc2.c1 hc2.f1;clear hc2;go_upto_region 8 with (fail)
 have h3:=h2.setAt (n+1);rw[show ((n+1:Nat):Int)=(n:Int)+1 by omega] at h3;have x3:WX R w (blk A) (w2.setCell ⟨R,1,none⟩ (.int .i64 ((n:Int)+1))) (blk A):=(WX.gr (blk A) hw2).set (p:=⟨R,1,none⟩) (.inl rfl) _;clear h2 c1 f1 hw2 h;generalize w2.setCell ⟨R,1,none⟩ (.int .i64 ((n:Int)+1))=w3 at h3 x3 ⊢;have HL:=Lib.hid (rlay_any h3 6 0 0 [] hb);clear hb;go_wp2_with (go_at_call 62;refine HL.out.mono ?_;rintro x w9 ⟨rfl,A',k1,k2⟩);go_end0;refine ⟨rfl,n+1,_,_,A',_,by simp only[errE,hqb.1,hqb.2,cond_false];exact k1,x3.trans k2,⟨by simp[Pc.lay],by simp[hq,hqb.2,Pc.lay];omega⟩,λ_=>⟨hqb.1,rfl,hdr,by omega,rfl,rfl⟩⟩
theorem ratom_none {w:World} {R n:Nat} {s:ByteArray} {A:Option Addr} {code:List In} {q:Rs} (h:RfS w R s n q A code) (hs:(s.size:Int)<=4096) {c:UInt8} {r:List UInt8} (hq:q.rest=c::r) (h40:c.toNat≠40) (h94:c.toNat≠94) (h36:c.toNat≠36) (hqb:q.over=false/\q.bad=false) {t:List UInt8} (hT:bytesS c.toNat r=(none,t)):Calls Tryz.prog 144 #[.pointer (some ⟨R,0,none⟩)] w (RetR w R s q A code ((setS q (none,t)).1) ((setS q (none,t)).2)):=by
 obtain ⟨hz0,hsz0⟩:=zero_of_info info_arr;obtain ⟨h,hd, -⟩:=h;have hl0:n<s.data.toList.length:=by
  rcases Nat.lt_or_ge n s.data.toList.length with h1|h1
  ·exact h1
  ·rw[List.drop_eq_nil_of_le h1,hq] at hd;cases hd
 have hn:n<s.size:=by simpa using hl0
 rw[List.drop_eq_getElem_cons hl0,hq] at hd;have hcr:s[n]=c/\s.data.toList.drop (n+1)=r:=by injection hd with a b;exact ⟨a,b⟩
 obtain ⟨rfl,hdr⟩:=hcr;have hn3:(n:Int)<(s.size:Int):=by omega
 have hn4:(n:Int)<4096:=by omega
 clear hd hl0;have hq40:((s[n].toNat:Int)==40)=false:=by simp;omega
 have hq94:((s[n].toNat:Int)==94)=false:=by simp;omega
 have hq36:((s[n].toNat:Int)==36)=false:=by simp;omega
 go_enter Tryz.func144,Tryz.ntmps144;go_upto_region 0 with (fail)
 have hz:R<w.heap.size:=h.lt;obtain ⟨cc1,hc1⟩:=id h;obtain ⟨c0,c1⟩:=And.intro hc1.c0 hc1.c1;clear hc1;refine region_Q (by kernel_rfl) (by kernel_rfl) ?_;(iterate 3 refine qv ?_);refine qv ?_ (h:=λW hW=>by have q0:=bc hW hz c0;go_simp<;>rfl);(iterate 3 refine qv ?_);refine qv ?_ (h:=λW hW=>by have q1:=bc hW hz c1;go_simp<;>rfl);(iterate 2 refine qv ?_);refine wpQuiet_nil ?_;intro w2 hw2;have h2:=h.gr hw2;clear c0 c1 hz;have HS:=Lib.hid (λ(W:World) (hW:RfW W R s n q.deep 0 q.groups A code)=>rset_any hW hs hn);rw[hdr,hT] at HS;clear hT;have hrow:=λk hk=>(h2.row k hk).2;go_upto_region 11 with (first
  | (go_at_call 150;refine (HS.out _ h2).mono ?_;rintro x w5 ⟨f,n',rfl,h5,x5,hn',hF⟩;have y5:WX R w (blk A) w5 (blk A):=(WX.gr (blk A) hw2).trans (WX.of_gx x5 _);have HFF:=Lib.hid hF;clear hF)
  | (refine wpList_store_row rfl 215 (.tmp 3) (.tmp 48) rfl w5.heap.size (bsA f) rfl rfl _ _ (SetQ.new w5 noB) (size_bsQ _) (by simp only[bsA_size]) (bsA_one _) ?_;have g6:Gr w5 ((w5.alloc (.cells (bsA noB) 215)).setRow w5.heap.size (bsA f)):=Gr.setRow (Gr.alloc (Gr.refl w5) (.cells (bsA noB) 215)) (g:=w5.heap.size) (Nat.le_refl _) (bsA f);have h6:=h5.gr g6;have y6:=y5.trans (WX.gr (blk A) g6);have hX6:SetQ ((w5.alloc (.cells (bsA noB) 215)).setRow w5.heap.size (bsA f)) w5.heap.size f:=SetQ.row (SetQ.new w5 noB)))
 clear x5 h5 y5 g6 h2 h hw2;generalize (w5.alloc (.cells (bsA noB) 215)).setRow w5.heap.size (bsA f)=w6 at h6 hX6 y6 ⊢;generalize w5.heap.size=gx at hX6 ⊢;have HB:=Lib.hid (bad_new h6 8 rfl);have h7:=h6.setErr 8;have y7:=y6.set (p:=⟨R,3,none⟩) (.inl rfl) (.int .i64 8);go_wp2_with (go_at_call 64;refine HB.out.mono ?_;rintro x w9 ⟨rfl,rfl⟩);go_end0;exact ⟨rfl,n',_,_,A,_,by simp only[errE,setS,failS,hqb.1,cond_false,cond_true];exact h7,y7,⟨Nat.le_refl _,by simp[setS,failS]⟩,λh=>by simp[setS,failS] at h⟩
theorem ratom_some {w:World} {R n:Nat} {s:ByteArray} {A:Option Addr} {code:List In} {q:Rs} (h:RfS w R s n q A code) (hs:(s.size:Int)<=4096) {c:UInt8} {r:List UInt8} (hq:q.rest=c::r) (h40:c.toNat≠40) (h94:c.toNat≠94) (h36:c.toNat≠36) (hqb:q.over=false/\q.bad=false) (hb:code.length<=4000) {F:Bs} {t:List UInt8} (hT:bytesS c.toNat r=(some F,t)) (ht:t.length<=r.length) (HS0:∀W,RfW W R s n q.deep 0 q.groups A code->n<s.size->Calls Tryz.prog 150 #[.pointer (some ⟨R,0,none⟩)] W (RetK W R s q.deep 0 q.groups A code (some F,t))):Calls Tryz.prog 144 #[.pointer (some ⟨R,0,none⟩)] w (RetR w R s q A code ((setS q (some F,t)).1) ((setS q (some F,t)).2)):=by
 have HS1:=Lib.hid HS0;clear HS0;obtain ⟨hz0,hsz0⟩:=zero_of_info info_arr;obtain ⟨h,hd, -⟩:=h;have hl0:n<s.data.toList.length:=by
  rcases Nat.lt_or_ge n s.data.toList.length with h1|h1
  ·exact h1
  ·rw[List.drop_eq_nil_of_le h1,hq] at hd;cases hd
 have hn:n<s.size:=by simpa using hl0
 rw[List.drop_eq_getElem_cons hl0,hq] at hd;have hcr:s[n]=c/\s.data.toList.drop (n+1)=r:=by injection hd with a b;exact ⟨a,b⟩
 obtain ⟨rfl,hdr⟩:=hcr;have hn3:(n:Int)<(s.size:Int):=by omega
 have hn4:(n:Int)<4096:=by omega
 clear hd hl0;have hq40:((s[n].toNat:Int)==40)=false:=by simp;omega
 have hq94:((s[n].toNat:Int)==94)=false:=by simp;omega
 have hq36:((s[n].toNat:Int)==36)=false:=by simp;omega
 go_enter Tryz.func144,Tryz.ntmps144;go_upto_region 0 with (fail)
 have hz:R<w.heap.size:=h.lt;obtain ⟨cc1,hc1⟩:=id h;obtain ⟨c0,c1⟩:=And.intro hc1.c0 hc1.c1;clear hc1;refine region_Q (by kernel_rfl) (by kernel_rfl) ?_;(iterate 3 refine qv ?_);refine qv ?_ (h:=λW hW=>by have q0:=bc hW hz c0;go_simp<;>rfl);(iterate 3 refine qv ?_);refine qv ?_ (h:=λW hW=>by have q1:=bc hW hz c1;go_simp<;>rfl);(iterate 2 refine qv ?_);refine wpQuiet_nil ?_;intro w2 hw2;have h2:=h.gr hw2;clear c0 c1 hz;have HS:=Lib.hid (λ(W:World) (hW:RfW W R s n q.deep 0 q.groups A code)=>HS1.out W hW hn);clear HS1;clear hT;have hrow:=λk hk=>(h2.row k hk).2;go_upto_region 12 with (first
  | (go_at_call 150;refine (HS.out _ h2).mono ?_;rintro x w5 ⟨f,n',rfl,h5,x5,hn',hF⟩;have y5:WX R w (blk A) w5 (blk A):=(WX.gr (blk A) hw2).trans (WX.of_gx x5 _);have HFF:=Lib.hid hF;clear hF)
  | (refine wpList_store_row rfl 215 (.tmp 3) (.tmp 48) rfl w5.heap.size (bsA f) rfl rfl _ _ (SetQ.new w5 noB) (size_bsQ _) (by simp only[bsA_size]) (bsA_one _) ?_;have g6:Gr w5 ((w5.alloc (.cells (bsA noB) 215)).setRow w5.heap.size (bsA f)):=Gr.setRow (Gr.alloc (Gr.refl w5) (.cells (bsA noB) 215)) (g:=w5.heap.size) (Nat.le_refl _) (bsA f);have h6:=h5.gr g6;have y6:=y5.trans (WX.gr (blk A) g6);have hX6:SetQ ((w5.alloc (.cells (bsA noB) 215)).setRow w5.heap.size (bsA f)) w5.heap.size f:=SetQ.row (SetQ.new w5 noB)))
 clear x5 h5 y5 g6 h2 h hw2;generalize (w5.alloc (.cells (bsA noB) 215)).setRow w5.heap.size (bsA f)=w6 at h6 hX6 y6 ⊢;generalize w5.heap.size=gx at hX6 ⊢;obtain ⟨hfF,hdt,hn9⟩:=HFF.out F rfl;subst hfF;clear HFF;have Hb:=Lib.hid hb;clear hb;go_wp2_with (first
  | (refine wpList_load_row rfl 215 (.tmp 3) rfl (gx) rfl _ (bsA f) (0,0) _ hX6 und_arr rfl (size_bsQ _) ?_)
  | (go_at_call 151;refine (rpairs_any f _).mono ?_;rintro x w8 ⟨rfl,g8⟩;have h8:=h6.gr g8;have y8:=y6.trans (WX.gr (blk A) g8))
  | (go_at_call 62;refine (rlay_any h8 1 0 0 (pairsS f) Hb.out).mono ?_;rintro x w9 ⟨rfl,A',k1,k2⟩))
 go_end0;refine ⟨rfl,n',_,_,A',_,by simp only[errE,setS,hqb.1,hqb.2,cond_false];exact k1,y8.trans k2,⟨by simp[Pc.lay],by simp[setS,hq,hqb.2,Pc.lay];omega⟩,λ_=>⟨hqb.1,rfl,hdt,hn9,rfl,rfl⟩⟩
theorem rset_at {w:World} {R n:Nat} {s:ByteArray} {A:Option Addr} {code:List In} {q:Rs} (h:RfS w R s n q A code) (hs:(s.size:Int)<=4096) {c:UInt8} {r:List UInt8} (hq:q.rest=c::r) (W:World) (hW:RfW W R s n q.deep 0 q.groups A code) (hn:n<s.size):Calls Tryz.prog 150 #[.pointer (some ⟨R,0,none⟩)] W (RetK W R s q.deep 0 q.groups A code (bytesS c.toNat r)):=by
 obtain ⟨-,hd, -⟩:=h;have hl0:n<s.data.toList.length:=by simpa using hn
 rw[List.drop_eq_getElem_cons hl0,hq] at hd;have hcr:s[n]=c/\s.data.toList.drop (n+1)=r:=by injection hd with a b;exact ⟨a,b⟩
 obtain ⟨rfl,rfl⟩:=hcr;exact rset_any hW hs hn
theorem bytesS_len (c:Nat) (r:List UInt8) (h:(classS r).2.length<=r.length):(bytesS c r).2.length<=r.length:=by
 unfold bytesS;cases c==46<;>cases c==91<;>cases c==92<;>cases spcB c<;>simp only[cond_true,cond_false,Nat.le_refl,h,escS_len]
theorem ratom_any (Wf:Rs->Pc×Rs) {w:World} {R n:Nat} {s:ByteArray} {A:Option Addr} {code:List In} {q:Rs} (h:RfS w R s n q A code) (hs:(s.size:Int)<=4096) {c:UInt8} {r:List UInt8} (hq:q.rest=c::r) (hqb:q.over=false/\q.bad=false) (hb:code.length<=4000) (HG:∀W,RfS W R s n q A code->Calls Tryz.prog 149 #[.pointer (some ⟨R,0,none⟩)] W (RetR W R s q A code (groupS Wf {q with rest:=r}).1 (groupS Wf {q with rest:=r}).2)):Calls Tryz.prog 144 #[.pointer (some ⟨R,0,none⟩)] w (RetR w R s q A code ((atomS Wf q).1) ((atomS Wf q).2)):=by
 have e:∀k:Nat,c.toNat≠k->(c.toNat==k)=false:=λk h=>beq_eq_false_iff_ne.2 h;by_cases h40:c.toNat=40
 ·have:atomS Wf q=groupS Wf {q with rest:=r}:=by simp[atomS,hq,h40]
  rw[this];exact ratom_group h hs hq h40 hqb.1 _ _ HG
 by_cases h94:c.toNat=94
 ·have:atomS Wf q=(.leaf 5 [],{q with rest:=r}):=by simp[atomS,hq,h94]
  rw[this];exact ratom_begin h hs hq h94 hqb hb
 by_cases h36:c.toNat=36
 ·have:atomS Wf q=(.leaf 6 [],{q with rest:=r}):=by simp[atomS,hq,h36]
  rw[this];exact ratom_end h hs hq h36 hqb hb
 have ht:=bytesS_len c.toNat r (classS_len r);have ea:atomS Wf q=setS q (bytesS c.toNat r)\/(bytesS c.toNat r).1=none/\(atomS Wf q)=failS {q with rest:=r}:=by
  simp only[atomS,hq,e 40 h40,e 94 h94,e 36 h36,cond_false];unfold bytesS;by_cases h46:c.toNat=46
  ·left;simp[h46,setS]
  by_cases h91:c.toNat=91
  ·left;simp[h91,setS]
  by_cases h92:c.toNat=92
  ·left;simp[h92,setS]
  simp only[e 46 h46,e 91 h91,e 92 h92,cond_false];rw[spc_stop _ h40 h94 h36 h46 h91 h92];cases stopC c.toNat
  ·left;rfl
  ·right;exact ⟨rfl,rfl⟩
 rcases hT:bytesS c.toNat r with ⟨_|F,t⟩
 ·have k:=ratom_none h hs hq h40 h94 h36 hqb hT;rcases ea with ea|⟨-,ea⟩
  ·rw[ea,hT];exact k
  ·rw[ea];refine k.mono ?_;rintro x w' ⟨rfl,n',d',g',A',code',k1,k2,k3,k4⟩;exact ⟨rfl,n',d',g',A',code',k1,k2,by simpa [setS,failS] using k3,λh=>by simp[failS] at h⟩
 ·rw[hT] at ea ht;rcases ea with ea|⟨ea, -⟩
  ·rw[ea];exact ratom_some h hs hq h40 h94 h36 hqb hb hT ht (λW hW hn=>by have k:=rset_at h hs hq W hW hn;rw[hT] at k;exact k)
  ·cases ea
theorem Sm.app {l m:List In} (h:Sm l) (k:Sm m):Sm (l++m):=λv hv=>by
 rcases List.mem_append.1 hv with h1|h1
 ·exact h v h1
 ·exact k v h1
theorem Sm.cons {v:In} {l:List In} (hv: -100000<=v.x/\v.x<=100000/\ -100000<=v.y/\v.y<=100000) (h:Sm l):Sm (v::l):=λu hu=>by
 rcases List.mem_cons.1 hu with rfl|h1
 ·exact hv
 ·exact h u h1
theorem Sm.nil:Sm []:=λv hv=>by cases hv
theorem split_sm (z:Bool) (x y:Int) (hx: -100000<=x/\x<=100000) (hy: -100000<=y/\y<=100000): -100000<=(splitI z x y).x/\(splitI z x y).x<=100000/\ -100000<=(splitI z x y).y/\(splitI z x y).y<=100000:=by
 cases z<;>simp[splitI]<;>omega
mutual
theorem Pc.lay_sm:∀(p:Pc),p.ok->∀a:Nat,a+p.sz<=50000->Sm (p.lay a)
 | .leaf op ps,h,a,ha=>by
  simp only[Pc.lay];exact Sm.cons ⟨by simp,by simp,by simp,by simp⟩ Sm.nil
 | .row l,h,a,ha=>by simp only[Pc.ok] at h;simp only[Pc.sz] at ha;simp only[Pc.lay];exact PcL.layR_sm l h.2 a ha
 | .ways l,h,a,ha=>by
  simp only[Pc.ok] at h;simp only[Pc.sz] at ha;simp only[Pc.lay];exact PcL.layW_sm l h.2.2 a _ ha ha
 | .group g p,h,a,ha=>by
  simp only[Pc.ok] at h;simp only[Pc.lay];simp only[Pc.sz] at ha;cases hg:(g==0)
  ·rw[hg] at ha;simp only[cond_false] at ha ⊢;have ih:=Pc.lay_sm p h.2 (a+1) (by omega);refine Sm.cons ?_ (Sm.app ih (Sm.cons ?_ Sm.nil))<;>(simp only;omega)
  ·rw[hg] at ha;simp only[cond_true] at ha ⊢;exact Pc.lay_sm p h.2 a ha
 | .rep op z p,h,a,ha=>by
  simp only[Pc.ok] at h;simp only[Pc.lay];simp only[Pc.sz] at ha;cases h1:(op==42)
  ·rw[h1] at ha;simp only[cond_false] at ha ⊢;cases (op==43)
   ·simp only[cond_false];exact Sm.cons (split_sm _ _ _ (by omega) (by omega)) (Pc.lay_sm p h.2 (a+1) (by omega))
   ·simp only[cond_true];exact Sm.app (Pc.lay_sm p h.2 a (by omega)) (Sm.cons (split_sm _ _ _ (by omega) (by omega)) Sm.nil)
  ·rw[h1] at ha;simp only[cond_true] at ha ⊢;exact Sm.cons (split_sm _ _ _ (by omega) (by omega)) (Sm.app (Pc.lay_sm p h.2 (a+1) (by omega)) (Sm.cons (by simp only;omega) Sm.nil))
theorem PcL.layR_sm:∀(l:PcL),l.ok->∀a:Nat,a+l.szR<=50000->Sm (l.layR a)
 | .nil,h,a,ha=>Sm.nil
 | .cons p l,h,a,ha=>by
  simp only[PcL.ok] at h;simp only[PcL.szR] at ha;simp only[PcL.layR];exact Sm.app (Pc.lay_sm p h.1 a (by omega)) (PcL.layR_sm l h.2 (a+p.sz) (by omega))
theorem PcL.layW_sm:∀(l:PcL),l.ok->∀a e:Nat,a+l.szW<=50000->e<=50000->Sm (l.layW a e)
 | .nil,h,a,e,ha,he=>Sm.nil
 | .cons p .nil,h,a,e,ha,he=>by
  simp only[PcL.ok] at h;simp only[PcL.szW] at ha;simp only[PcL.layW];exact Pc.lay_sm p h.1 a ha
 | .cons p (.cons q l),h,a,e,ha,he=>by
  have h':=h;simp only[PcL.ok] at h;simp only[PcL.szW] at ha;simp only[PcL.layW];have ih:=PcL.layW_sm (.cons q l) (by simp only[PcL.ok];exact h.2) (a+p.sz+2) e (by omega) he;exact Sm.cons (by simp only;omega) (Sm.app (Pc.lay_sm p h.1 (a+1) (by omega)) (Sm.cons (by simp only;omega) ih))
end
theorem mvL_zero (l:List In):mvL 0 l=l:=by
 unfold mvL
 conv=>rhs;rw[<-List.map_id l]
 apply List.map_congr_left;intro v _;unfold mvI;cases v;simp
theorem cut_lay (p:Pc) (h:p.ok) (a:Nat):mvL (-(a:Int)) (p.lay a)=p.lay 0:=by
 have:=Pc.mv a p h 0;rw[Nat.zero_add] at this;rw[<-this,mvL_mvL,show (a:Int) + -(a:Int)=0 by omega,mvL_zero]
theorem put_lay (p:Pc) (h:p.ok) (a:Nat):mvL (a:Int) (p.lay 0)=p.lay a:=by
 have:=Pc.mv a p h 0
 rwa [Nat.zero_add] at this
def Cd (l:List In):Prop:=Sm l/\0<l.length
theorem Cd.lay {l:List In} (h:Cd l) {p:Pc} (hp:p.ok) (hb:l.length+p.sz<=50000):Cd (l++p.lay l.length):=⟨h.1.app (Pc.lay_sm p hp _ hb),by have:=h.2;simp;omega⟩
theorem Cd.snoc {l:List In} (h:Cd l) {v:In} (hv: -100000<=v.x/\v.x<=100000/\ -100000<=v.y/\v.y<=100000):Cd (l++[v]):=⟨h.1.app (Sm.cons hv Sm.nil),by have:=h.2;simp⟩
end Go.Proofs.YtjapddfnpmlifaaGreatDoor
