import Derived.Test.YtoncapkmaeghfaaGreatRunVfMap
import Derived.Deep.Light
import Derived.Test.YtoncapkmaeghfaaGreatRunVfWrt
import Derived.Deep.Cut
import Derived.Deep.CutRange
set_option linter.all false
set_option maxRecDepth 1000000
set_option maxHeartbeats 12800000
namespace Go.Proofs.YtoncapkmaeghfaaGreat
open Go
structure WQ (P:Program) (ops:Array Oper) (C:World→Prop) (Q:Act→Prop) (l:List Oper) (a:Act):Prop where
 out:wpQuiet P ops C Q l a
section
variable {P:Program} {ops:Array Oper} {C:World→Prop} {Q:Act→Prop} {o:Oper} {rest:List Oper} {a:Act}
theorem r_val {v:Value} (hw:Region.wanted o (yielded ops a.tmps)=true) (h:∀W,C W→(execOp a.eval o).run P W= .ok (.value v) W) (hr:WQ P ops C Q rest (a.put o.dst v)) :
  WQ P ops C Q (o::rest) a:=⟨q_val hw h hr.out⟩
theorem r_call {v:Value} {f:FuncId} {args:Array Value} (hw:Region.wanted o (yielded ops a.tmps)=true) (h:∀W,C W→(execOp a.eval o).run P W= .ok (.enter f args) W)
  (hc:∀W,C W→Calls P f args W fun e w'=>e= .returned v∧C w') (hr:WQ P ops C Q rest (a.put o.dst v)):WQ P ops C Q (o::rest) a:=⟨q_call hw h hc hr.out⟩
theorem r_skip (hw:Region.wanted o (yielded ops a.tmps)=false) (hr:WQ P ops C Q rest (a.put o.dst undef)):WQ P ops C Q (o::rest) a:=⟨q_skip hw hr.out⟩
theorem rv {v:Value} (hr:WQ P ops C Q rest (a.put o.dst v)) (hw:Region.wanted o (yielded ops a.tmps)=true:=by kernel_rfl) (h:∀W,C W→(execOp a.eval o).run P W= .ok (.value v) W:=by intro W hW;go_light;go_simp;rfl):WQ P ops C Q (o::rest) a:=r_val hw h hr
theorem rs (hr:WQ P ops C Q rest (a.put o.dst undef)) (hw:Region.wanted o (yielded ops a.tmps)=false:=by kernel_rfl):WQ P ops C Q (o::rest) a:=r_skip hw hr
theorem r_nil (h:Q a):WQ P ops C Q [] a:=⟨wpQuiet_nil h⟩
theorem region_R {id:Nat} {R:Exit→Act→World→Prop} {w:World} {l:List Oper} (hm:P.follows .mixedOrders=true) (hB:Region.lexB .any l.toArray=true)
  (h:WQ P l.toArray (fun W=>Gr w W) (fun a'=>∀w',Gr w w'→R .normal a' w') l a):(Code.region id l.toArray true).wp P R a w:=region_Q hm hB h.out
end
open Go.RowKit
theorem xcreate_row {Y:Nat→Prop} {X:Nat} {R:Option Nat} {room:Int} {n:Nat} (pb po pn pc:Nat) (ls:List (List UInt8)) (hpn:ls.length=pn) (hpn9:pn≤1000) (hs:(ls.flatten.length:Int)≤1073741824) (hrm:(ls.flatten.length:Int)≤room) (hrm2:room≤1073741824) (hn:n≤1000000) (w:World) (h:RsM Y w X R room n none) (hc:∀k (h:k<ls.length),∃A d,w.cell? ⟨pb,po+k,none⟩=some (.slice A ls[k].length d)∧Rb w A ls[k]) (hb:0<pn→pb<w.heap.size) :
  Calls Tryz.prog 20 #[.pointer (some ⟨X,0,none⟩), .string nmA, .slice (some ⟨pb,po,none⟩) pn pc] w fun e w'=>e= .returned (.int .i64 0)∧∃R',RsM Y w' X R' room (n+1) (some ls.flatten)∧Kp (Xch X R) w w'∧(∀i,R'=some i→R=some i∨w.heap.size≤i)∧∃v xs0 u,v.ownBlock=R'∧xs0.length=n*4∧w'.ownsRow 0 120 4 v (n+1) (xs0++(.int .i64 1::u)):=by
 obtain ⟨v,v1,c0,rfl⟩:=h.x1
 have lX:=h.lX
 have x0:=h.x0
 have hro:=fun W (g:Gr w W)=>xrows_any pb po pn pc ls hpn hpn9 hs W (fun k h=>by obtain ⟨A,d,e,hr⟩:=hc k h;exact ⟨A,d,(Below.cell g (p:=⟨pb,po+k,none⟩) (hb (by omega))).trans e,hr.gr g⟩) (fun h=>Nat.lt_of_lt_of_le (hb h) g.size)
 have HRO:=Lib.hid hro
 obtain ⟨L,hL⟩:∃L,L=ls.flatten:=⟨_,rfl⟩
 rw[←hL] at HRO hs hrm ⊢
 clear hro hc hb hL
 have HF:=Lib.hid h
 have HUS:Hid (∀W,Gr w W→Calls Tryz.prog 54 #[.pointer (some ⟨X,0,none⟩)] W fun e w'=>e= .returned (.int .i64 0)∧Gr W w'):=Lib.hid fun W g=>(xused_none W (HF.out.gr g)).mono (fun e w' h=>⟨h.1,by rw[←h.2];exact Gr.refl _⟩)
 have q1:¬room-0<(L.length:Int):=by omega
 have q2:IntKind.i64.wrap (room-0)=room-0:=IntWalk.i64_in _ (by omega)
 have q4:IntKind.i64.wrap room=room:=IntWalk.i64_in _ (by omega)
 have q5:¬room<(L.length:Int):=by omega
 have q3:decide (room<(L.length:Int))=false:=decide_eq_false q5
 clear h
 go_enter Tryz.func20,Tryz.ntmps20
 go_upto_region 6 with (first|(go_at_call 51;refine (HRO.out _ (Gr.refl _)).mono ?_;rintro e w1 ⟨A1,d1,rfl,hd1,own1,g1⟩;have H1:=Lib.hid (And.intro hd1 (And.intro own1 g1));have y1:=(Below.cell g1 (p:=⟨X,1,none⟩) lX).trans v1;have lX1:=Nat.lt_of_lt_of_le lX g1.size;have y0:=(Below.cell g1 (p:=⟨X,0,none⟩) lX).trans x0;clear hd1 own1 g1)|(go_at_call 52;refine (xis_any nmA _).mono ?_;rintro e w3 ⟨rfl,rfl⟩;rw[nmA_ok])|(go_at_call 53;refine (xfind_none _ _).mono ?_;rintro e w2 ⟨rfl,rfl⟩))
 refine region_R (by kernel_rfl) (by kernel_rfl) ?_
 iterate 5 (refine rv ?_;simp only[Pu])
 refine r_val (v:=?qv6) (by kernel_rfl) (fun W hW=>?qh6) ?qr6
 case qh6=>have e0:=(Below.cell hW (p:=⟨X,0,none⟩) lX1).trans y0;go_light;go_simp;rfl
 simp only[Pu]
 refine rv ?_;simp only[Pu]
 refine r_call (v:= .int .i64 0) (f:=?qf8) (args:=?qa8) (by kernel_rfl) (fun W hW=>?qh8) (fun W hW=>?qc8) ?qr8
 case qh8=>go_light;go_simp;constructor<;>rfl
 case qc8=>exact (HUS.out W (H1.out.2.2.trans hW)).mono (fun e w' h=>⟨h.1,Gr.trans hW h.2⟩)
 simp only[Pu]
 iterate 3 (refine rv ?_;simp only[Pu])
 refine r_nil ?_
 intro w8 hw8
 have HG8:=Lib.hid (H1.out.2.2.trans hw8)
 have own8:=own_grU H1.out.2.1 hw8
 have hA8:∀ad,A1=some ad→ad.block<w8.heap.size∧w.heap.size≤ad.block:=fun ad e=>by
  subst e
  have:=own8.lt ad.block rfl
  exact ⟨this.2,this.1⟩
 have hdo:=fun W (gW:Gr w W) (g8:Gr w8 W)=>xdo_row (l:=L) 1 0 A1 L.length d1 hn W (HF.out.gr gW) (fun v hv W2 g2=>by
  have ev:=(Below.cell gW (p:=⟨X,1,none⟩) lX).trans v1
  rw[ev] at hv
  injection hv with hv
  subst hv
  refine (xdoes_new A1 d1 0 L H1.out.1 c0 W2 ((Rb.own own8).gr (g8.trans g2)) (fun ad e=>Nat.lt_of_lt_of_le (hA8 ad e).1 (g8.trans g2).size)).mono ?_
  rintro e w' ⟨v',rfl,hf,hg⟩
  refine ⟨v',rfl,hf.imp (fun k hk hq=>?_),hg⟩
  have hk2:w.heap.size≤k:=by
   rcases hq with hq|⟨ad,e,hq⟩
   ·
    exact Nat.le_trans (gW.trans g2).size hq
   ·
    rw[←hq];exact (hA8 ad e).2
  exact ⟨fun e=>by have:=HF.out.lX;omega,fun e=>by have:=HF.out.lR k e;omega,fun e=>by have:=HF.out.yl k e;omega⟩)
 have HDO:Hid (∀W,W=w8→Calls Tryz.prog 55 #[.pointer (some ⟨X,0,none⟩), .agg #[.int .i64 1, .string nmA, .int .i64 0, .slice A1 L.length d1]] W fun e w'=>e= .returned (.int .i64 0)∧∃R',RsM Y w' X R' room (n+1) (some L)∧Kp (Xch X R) W w'∧(∀i,R'=some i→R=some i∨W.heap.size≤i)∧∃v xs0 u,v.ownBlock=R'∧xs0.length=n*4∧w'.ownsRow 0 120 4 v (n+1) (xs0++(.int .i64 1::u))):=Lib.hid fun W e=>by subst e;exact (hdo _ HG8.out (Gr.refl _)).mono fun e w' q=>(by obtain ⟨e1,R',q1,q2,q3,v,xs0,q4,q5,q6⟩:=q;exact ⟨e1,R',q1,q2,q3,v,xs0,_,q4,q5,q6⟩)
 clear hdo hA8 own8 hw8 y0 y1
 go_wp2_with (go_at_call 55;refine (HDO.out _ rfl).mono ?_;rintro e w9 ⟨rfl,hR⟩;have H9:=Lib.hid hR;clear hR)
 go_ret
 obtain ⟨R',h1,h2,h3,h4⟩:=H9.out
 exact ⟨rfl,R',h1,(Kp.of_gr (Xch X R) HG8.out).trans h2 (fun i _ e=>e),fun i hi=>(h3 i hi).elim .inl (fun e=> .inr (Nat.le_trans HG8.out.size e)),h4⟩
theorem xcreate_has {Y:Nat→Prop} {X:Nat} {R:Option Nat} {room:Int} {n:Nat} {l:List UInt8} (pb po pn pc:Nat) (ls:List (List UInt8)) (hpn:ls.length=pn) (hpn9:pn≤1000) (hs:(ls.flatten.length:Int)≤1073741824) (w:World) (h:RsM Y w X R room n (some l)) (hc:∀k (h:k<ls.length),∃A d,w.cell? ⟨pb,po+k,none⟩=some (.slice A ls[k].length d)∧Rb w A ls[k]) (hb:0<pn→pb<w.heap.size) :
  Calls Tryz.prog 20 #[.pointer (some ⟨X,0,none⟩), .string nmA, .slice (some ⟨pb,po,none⟩) pn pc] w fun e w'=>e= .returned (.int .i64 6)∧Gr w w':=by
 have lX:=h.lX
 obtain ⟨v,v1,v2⟩:=h.x1
 obtain ⟨b,c,G,d,rfl,hc1,hbb, -,h0,h1,hd,hr,hG⟩:=v2
 have hro:=fun W (g:Gr w W)=>xrows_any pb po pn pc ls hpn hpn9 hs W (fun k h=>by obtain ⟨A,d,e,hr⟩:=hc k h;exact ⟨A,d,(Below.cell g (p:=⟨pb,po+k,none⟩) (hb (by omega))).trans e,hr.gr g⟩) (fun h=>Nat.lt_of_lt_of_le (hb h) g.size)
 have HRO:=Lib.hid hro
 obtain ⟨L,hL⟩:∃L,L=ls.flatten:=⟨_,rfl⟩
 rw[←hL] at HRO hs
 clear hro hc hb hL
 clear h hr hG h1
 go_enter Tryz.func20,Tryz.ntmps20
 go_wp2_with (first|(go_at_call 51;refine (HRO.out _ (Gr.refl _)).mono ?_;rintro e w1 ⟨A1,d1,rfl,hd1,own1,g1⟩;have H1:=Lib.hid (And.intro hd1 (And.intro own1 g1));have y1:=(Below.cell g1 (p:=⟨X,1,none⟩) lX).trans v1;have lX1:=Nat.lt_of_lt_of_le lX g1.size;have y2:=(Below.cell g1 (p:=⟨b,0,none⟩) hbb).trans h0;have y3:=Nat.lt_of_lt_of_le hbb g1.size;clear hd1 own1 g1)|(go_at_call 52;refine (xis_any nmA _).mono ?_;rintro e w3 ⟨rfl,rfl⟩;rw[nmA_ok])|(go_at_call 53;refine (xfind_some b c _ y3 y2).mono ?_;rintro e w2 ⟨rfl,rfl⟩))
 go_ret
 exact ⟨rfl,H1.out.2.2⟩
theorem xwrite_any {Y:Nat→Prop} {X:Nat} {R:Option Nat} {room:Int} {n:Nat} {l:List UInt8} (hl:(l.length:Int)≤1073741824) (o:Nat) (pb po pn pc:Nat) (ls:List (List UInt8)) (hpn:ls.length=pn) (hpn9:pn≤1000) (hs:(ls.flatten.length:Int)≤1073741824) (hol:o+ls.flatten.length≤l.length) (hn:n≤1000000) (w:World) (h:RsM Y w X R room n (some l)) (hc:∀k (h:k<ls.length),∃A d,w.cell? ⟨pb,po+k,none⟩=some (.slice A ls[k].length d)∧Rb w A ls[k]) (hb:0<pn→pb<w.heap.size) :
  Calls Tryz.prog 101 #[.pointer (some ⟨X,0,none⟩), .string nmA, .int .i64 o, .slice (some ⟨pb,po,none⟩) pn pc] w fun e w'=>e= .returned (.int .i64 0)∧∃R',RsM Y w' X R' room (n+1) (some (putB l o ls.flatten))∧Kp (Xch X R) w w'∧∀i,R'=some i→R=some i∨w.heap.size≤i:=by
 have lX:=h.lX
 obtain ⟨v,v1,v2⟩:=h.x1
 obtain ⟨b,c,G,d,rfl,hc1,hbb,hqb,h0,h1,hd,hr,hG⟩:=v2
 have hro:=fun W (g:Gr w W)=>xrows_any pb po pn pc ls hpn hpn9 hs W (fun k h=>by obtain ⟨A,d,e,hr⟩:=hc k h;exact ⟨A,d,(Below.cell g (p:=⟨pb,po+k,none⟩) (hb (by omega))).trans e,hr.gr g⟩) (fun h=>Nat.lt_of_lt_of_le (hb h) g.size)
 have HRO:=Lib.hid hro
 obtain ⟨L,hL⟩:∃L,L=ls.flatten:=⟨_,rfl⟩
 rw[←hL] at HRO hs hol ⊢
 clear hro hc hb hL
 have HF:=Lib.hid h
 have HR:=Lib.hid (And.intro hr hG)
 have q1:¬(o:Int)<0:=by omega
 have q2:¬(l.length:Int)<(o:Int):=by omega
 have q3:IntKind.i64.wrap ((l.length:Int)-(o:Int))=(l.length:Int)-(o:Int):=IntWalk.i64_in _ (by omega)
 have q4:¬(l.length:Int)-(o:Int)<(L.length:Int):=by omega
 have q5:o≤l.length:=by omega
 clear h hr hG hqb
 go_enter Tryz.func101,Tryz.ntmps101
 go_upto_region 9 with (first|(go_at_call 51;refine (HRO.out _ (Gr.refl _)).mono ?_;rintro e w1 ⟨A1,d1,rfl,hd1,own1,g1⟩;have H1:=Lib.hid (And.intro hd1 (And.intro own1 g1));have y1:=(Below.cell g1 (p:=⟨X,1,none⟩) lX).trans v1;have lX1:=Nat.lt_of_lt_of_le lX g1.size;have y2:=(Below.cell g1 (p:=⟨b,0,none⟩) hbb).trans h0;have y4:=(Below.cell g1 (p:=⟨b,1,none⟩) hbb).trans h1;have y3:=Nat.lt_of_lt_of_le hbb g1.size;clear hd1 own1 g1)|(go_at_call 52;refine (xis_any nmA _).mono ?_;rintro e w3 ⟨rfl,rfl⟩;rw[nmA_ok])|(go_at_call 53;refine (xfind_some b c _ y3 y2).mono ?_;rintro e w2 ⟨rfl,rfl⟩))
 have HG8:=Lib.hid H1.out.2.2
 have hdo:=xdo_any (l:=putB l o L) 2 o A1 L.length d1 hn w1 (HF.out.gr HG8.out) (fun v hv W2 g2=>by
  rw[y1] at hv
  injection hv with hv
  subst hv
  have hbw:=Nat.lt_of_lt_of_le y3 g2.size
  refine (xdoes_put b c G d l A1 d1 o L hl hol W2 hbw ((Below.cell g2 (p:=⟨b,0,none⟩) y3).trans y2) ((Below.cell g2 (p:=⟨b,1,none⟩) y3).trans y4) ((HR.out.1.gr HG8.out).gr g2) ((Rb.own H1.out.2.1).gr g2)).mono ?_
  rintro e w' ⟨v',rfl,hf,hg⟩
  refine ⟨v',rfl,hf.imp (fun k hk hq=>?_),hg⟩
  have hk2:w.heap.size≤k:=Nat.le_trans (HG8.out.trans g2).size hq
  exact ⟨fun e=>by have:=HF.out.lX;omega,fun e=>by have:=HF.out.lR k e;omega,fun e=>by have:=HF.out.yl k e;omega⟩)
 have HDO:=Lib.hid hdo
 clear hdo y1 y2 y3 y4
 go_wp2_with (go_at_call 55;refine HDO.out.mono ?_;rintro e w9 ⟨rfl,hR⟩;have H9:=Lib.hid hR;clear hR)
 go_ret
 obtain ⟨R',h1,h2,h3⟩:=H9.out
 exact ⟨rfl,R',h1,(Kp.of_gr (Xch X R) HG8.out).trans h2 (fun i _ e=>e),fun i hi=>(h3 i hi).elim .inl (fun e=> .inr (Nat.le_trans HG8.out.size e))⟩
theorem rside_any (x y:Nat×Nat) (hx:oneOk x=true) (hy:oneOk y=true) (w:World):Calls Tryz.prog 29 #[.agg #[.int .i64 x.1, .int .i64 x.2], .agg #[.int .i64 y.1, .int .i64 y.2]] w fun e w'=>e= .returned (.bool (fitsS x y))∧Gr w w':=by
 obtain ⟨x1,x2⟩:=x
 obtain ⟨y1,y2⟩:=y
 obtain ⟨hx1,hx2,hx3,hx4⟩:=oneOk_iff.1 hx
 obtain ⟨hy1,hy2,hy3,hy4⟩:=oneOk_iff.1 hy
 simp only at hx1 hx2 hx3 hx4 hy1 hy2 hy3 hy4 ⊢
 obtain ⟨F,hF⟩:∃F,F=fitsS (x1,x2) (y1,y2):=⟨_,rfl⟩
 rw[←hF]
 have hFF:=fits_int (x1:Int) x2 y1 y2 (by omega) (by omega) (by omega) (by omega)
 have hm1:=prod_small (x1:Int) x2 (by omega) (by omega) (by omega) (by omega)
 have hm2:=prod_small (y1:Int) y2 (by omega) (by omega) (by omega) (by omega)
 have hfi:fitsS (x1,x2) (y1,y2)=(decide ((x1:Int)<y1)&&(((y1:Int)%x1)==0)&&decide ((x1:Int)*x2<(y1:Int)*y2)&&decide ((y1:Int)/x1≤x2)):=fits_eq _ _ _ _
 rw[hfi] at hF
 have HF:=Lib.hid hF
 obtain ⟨X1,hX1⟩:∃X:Int,X=x1:=⟨_,rfl⟩
 obtain ⟨X2,hX2⟩:∃X:Int,X=x2:=⟨_,rfl⟩
 obtain ⟨Y1,hY1⟩:∃X:Int,X=y1:=⟨_,rfl⟩
 obtain ⟨Y2,hY2⟩:∃X:Int,X=y2:=⟨_,rfl⟩
 have a1:1≤X1∧X1≤16777216:=by omega
 have a2:1≤X2∧X2≤16777216:=by omega
 have a3:1≤Y1∧Y1≤16777216:=by omega
 have a4:1≤Y2∧Y2≤16777216:=by omega
 simp only[←hX1,←hX2,←hY1,←hY2] at HF hFF hm1 hm2 ⊢
 clear hX1 hX2 hY1 hY2 hF hfi hx hy hx1 hx2 hx3 hx4 hy1 hy2 hy3 hy4
 obtain ⟨V,hV⟩:∃V,V=(w.alloc (.cells #[.int .i64 X1, .int .i64 X2] 69)).alloc (.cells #[.int .i64 Y1, .int .i64 Y2] 69):=⟨_,rfl⟩
 have gV:Gr w V:=by rw[hV];exact Gr.alloc (Gr.alloc (Gr.refl w) _) _
 have hzx:w.heap.size<V.heap.size:=by rw[hV];simp;omega
 have hzy:w.heap.size+1<V.heap.size:=by rw[hV];simp
 have cx0:V.cell? ⟨w.heap.size,0,none⟩=some (.int .i64 X1):=by rw[hV];go_simp
 have cx1:V.cell? ⟨w.heap.size,1,none⟩=some (.int .i64 X2):=by rw[hV];go_simp
 have cy0:V.cell? ⟨w.heap.size+1,0,none⟩=some (.int .i64 Y1):=by rw[hV];go_simp
 have cy1:V.cell? ⟨w.heap.size+1,1,none⟩=some (.int .i64 Y2):=by rw[hV];go_simp
 have HV:=Lib.hid hV
 have HG:=Lib.hid gV
 clear hV gV
 obtain ⟨q1,q2,q3,q4⟩:=hFF
 by_cases h1:X1<Y1
 ·
  have e1:decide (X1<Y1)=true:=decide_eq_true h1
  cases h2:(Y1%X1==0)
  ·
   clear q1 q3 hm1 hm2
   go_enter Tryz.func29,Tryz.ntmps29
   go_upto_region 1 with (fail)
   rw[←HV.out]
   clear HV
   refine region_R (by kernel_rfl) (by kernel_rfl) ?_
   refine rv ?_;simp only[Pu]
   refine r_val (v:=?qv135) (by kernel_rfl) (fun W hW=>?qh135) ?qr135
   case qh135=>have g:=(Below.cell hW (p:=⟨w.heap.size+1,0,none⟩) hzy).trans cy0;go_light;go_simp;rfl
   simp only[Pu]
   refine rv ?_;simp only[Pu]
   refine r_val (v:=?qv137) (by kernel_rfl) (fun W hW=>?qh137) ?qr137
   case qh137=>have g:=(Below.cell hW (p:=⟨w.heap.size,0,none⟩) hzx).trans cx0;go_light;go_simp;rfl
   simp only[Pu]
   iterate 3 (refine rv ?_;simp only[Pu])
   refine r_val (v:=?qv141) (by kernel_rfl) (fun W hW=>?qh141) ?qr141
   case qh141=>have g:=(Below.cell hW (p:=⟨w.heap.size+1,0,none⟩) hzy).trans cy0;go_light;go_simp;rfl
   simp only[Pu]
   refine rv ?_;simp only[Pu]
   refine r_val (v:=?qv143) (by kernel_rfl) (fun W hW=>?qh143) ?qr143
   case qh143=>have g:=(Below.cell hW (p:=⟨w.heap.size,0,none⟩) hzx).trans cx0;go_light;go_simp;rfl
   simp only[Pu]
   iterate 4 (refine rv ?_;simp only[Pu])
   iterate 11 (refine rs ?_;simp only[Pu])
   iterate 2 (refine rv ?_;simp only[Pu])
   iterate 8 (refine rs ?_;simp only[Pu])
   iterate 2 (refine rv ?_;simp only[Pu])
   refine r_nil ?_
   intro w8 hw8
   go_wp2
   go_ret
   exact ⟨ret_b (by rw[HF.out,e1,h2];rfl),HG.out.trans hw8⟩
  ·
   by_cases h3:X1*X2<Y1*Y2
   ·
    have e3:decide (X1*X2<Y1*Y2)=true:=decide_eq_true h3
    by_cases h4:Y1/X1≤X2
    ·
     have e4:decide (Y1/X1≤X2)=true:=decide_eq_true h4
     go_enter Tryz.func29,Tryz.ntmps29
     go_upto_region 1 with (fail)
     rw[←HV.out]
     clear HV
     refine region_R (by kernel_rfl) (by kernel_rfl) ?_
     refine rv ?_;simp only[Pu]
     refine r_val (v:=?qv153) (by kernel_rfl) (fun W hW=>?qh153) ?qr153
     case qh153=>have g:=(Below.cell hW (p:=⟨w.heap.size+1,0,none⟩) hzy).trans cy0;go_light;go_simp;rfl
     simp only[Pu]
     refine rv ?_;simp only[Pu]
     refine r_val (v:=?qv155) (by kernel_rfl) (fun W hW=>?qh155) ?qr155
     case qh155=>have g:=(Below.cell hW (p:=⟨w.heap.size,0,none⟩) hzx).trans cx0;go_light;go_simp;rfl
     simp only[Pu]
     iterate 3 (refine rv ?_;simp only[Pu])
     refine r_val (v:=?qv159) (by kernel_rfl) (fun W hW=>?qh159) ?qr159
     case qh159=>have g:=(Below.cell hW (p:=⟨w.heap.size+1,0,none⟩) hzy).trans cy0;go_light;go_simp;rfl
     simp only[Pu]
     refine rv ?_;simp only[Pu]
     refine r_val (v:=?qv161) (by kernel_rfl) (fun W hW=>?qh161) ?qr161
     case qh161=>have g:=(Below.cell hW (p:=⟨w.heap.size,0,none⟩) hzx).trans cx0;go_light;go_simp;rfl
     simp only[Pu]
     iterate 5 (refine rv ?_;simp only[Pu])
     refine r_val (v:=?qv167) (by kernel_rfl) (fun W hW=>?qh167) ?qr167
     case qh167=>have g:=(Below.cell hW (p:=⟨w.heap.size+1,0,none⟩) hzy).trans cy0;go_light;go_simp;rfl
     simp only[Pu]
     refine rv ?_;simp only[Pu]
     refine r_val (v:=?qv169) (by kernel_rfl) (fun W hW=>?qh169) ?qr169
     case qh169=>have g:=(Below.cell hW (p:=⟨w.heap.size+1,1,none⟩) hzy).trans cy1;go_light;go_simp;rfl
     simp only[Pu]
     iterate 2 (refine rv ?_;simp only[Pu])
     refine r_val (v:=?qv172) (by kernel_rfl) (fun W hW=>?qh172) ?qr172
     case qh172=>have g:=(Below.cell hW (p:=⟨w.heap.size,0,none⟩) hzx).trans cx0;go_light;go_simp;rfl
     simp only[Pu]
     refine rv ?_;simp only[Pu]
     refine r_val (v:=?qv174) (by kernel_rfl) (fun W hW=>?qh174) ?qr174
     case qh174=>have g:=(Below.cell hW (p:=⟨w.heap.size,1,none⟩) hzx).trans cx1;go_light;go_simp;rfl
     simp only[Pu]
     iterate 5 (refine rv ?_;simp only[Pu])
     refine r_val (v:=?qv180) (by kernel_rfl) (fun W hW=>?qh180) ?qr180
     case qh180=>have g:=(Below.cell hW (p:=⟨w.heap.size,1,none⟩) hzx).trans cx1;go_light;go_simp;rfl
     simp only[Pu]
     refine rv ?_;simp only[Pu]
     refine r_val (v:=?qv182) (by kernel_rfl) (fun W hW=>?qh182) ?qr182
     case qh182=>have g:=(Below.cell hW (p:=⟨w.heap.size+1,0,none⟩) hzy).trans cy0;go_light;go_simp;rfl
     simp only[Pu]
     refine rv ?_;simp only[Pu]
     refine r_val (v:=?qv184) (by kernel_rfl) (fun W hW=>?qh184) ?qr184
     case qh184=>have g:=(Below.cell hW (p:=⟨w.heap.size,0,none⟩) hzx).trans cx0;go_light;go_simp;rfl
     simp only[Pu]
     iterate 4 (refine rv ?_;simp only[Pu])
     refine r_nil ?_
     intro w8 hw8
     go_wp2
     go_ret
     exact ⟨ret_b (by rw[HF.out,e1,h2,e3,e4];rfl),HG.out.trans hw8⟩
    ·
     have e4:decide (Y1/X1≤X2)=false:=decide_eq_false h4
     go_enter Tryz.func29,Tryz.ntmps29
     go_upto_region 1 with (fail)
     rw[←HV.out]
     clear HV
     refine region_R (by kernel_rfl) (by kernel_rfl) ?_
     refine rv ?_;simp only[Pu]
     refine r_val (v:=?qv190) (by kernel_rfl) (fun W hW=>?qh190) ?qr190
     case qh190=>have g:=(Below.cell hW (p:=⟨w.heap.size+1,0,none⟩) hzy).trans cy0;go_light;go_simp;rfl
     simp only[Pu]
     refine rv ?_;simp only[Pu]
     refine r_val (v:=?qv192) (by kernel_rfl) (fun W hW=>?qh192) ?qr192
     case qh192=>have g:=(Below.cell hW (p:=⟨w.heap.size,0,none⟩) hzx).trans cx0;go_light;go_simp;rfl
     simp only[Pu]
     iterate 3 (refine rv ?_;simp only[Pu])
     refine r_val (v:=?qv196) (by kernel_rfl) (fun W hW=>?qh196) ?qr196
     case qh196=>have g:=(Below.cell hW (p:=⟨w.heap.size+1,0,none⟩) hzy).trans cy0;go_light;go_simp;rfl
     simp only[Pu]
     refine rv ?_;simp only[Pu]
     refine r_val (v:=?qv198) (by kernel_rfl) (fun W hW=>?qh198) ?qr198
     case qh198=>have g:=(Below.cell hW (p:=⟨w.heap.size,0,none⟩) hzx).trans cx0;go_light;go_simp;rfl
     simp only[Pu]
     iterate 5 (refine rv ?_;simp only[Pu])
     refine r_val (v:=?qv204) (by kernel_rfl) (fun W hW=>?qh204) ?qr204
     case qh204=>have g:=(Below.cell hW (p:=⟨w.heap.size+1,0,none⟩) hzy).trans cy0;go_light;go_simp;rfl
     simp only[Pu]
     refine rv ?_;simp only[Pu]
     refine r_val (v:=?qv206) (by kernel_rfl) (fun W hW=>?qh206) ?qr206
     case qh206=>have g:=(Below.cell hW (p:=⟨w.heap.size+1,1,none⟩) hzy).trans cy1;go_light;go_simp;rfl
     simp only[Pu]
     iterate 2 (refine rv ?_;simp only[Pu])
     refine r_val (v:=?qv209) (by kernel_rfl) (fun W hW=>?qh209) ?qr209
     case qh209=>have g:=(Below.cell hW (p:=⟨w.heap.size,0,none⟩) hzx).trans cx0;go_light;go_simp;rfl
     simp only[Pu]
     refine rv ?_;simp only[Pu]
     refine r_val (v:=?qv211) (by kernel_rfl) (fun W hW=>?qh211) ?qr211
     case qh211=>have g:=(Below.cell hW (p:=⟨w.heap.size,1,none⟩) hzx).trans cx1;go_light;go_simp;rfl
     simp only[Pu]
     iterate 5 (refine rv ?_;simp only[Pu])
     refine r_val (v:=?qv217) (by kernel_rfl) (fun W hW=>?qh217) ?qr217
     case qh217=>have g:=(Below.cell hW (p:=⟨w.heap.size,1,none⟩) hzx).trans cx1;go_light;go_simp;rfl
     simp only[Pu]
     refine rv ?_;simp only[Pu]
     refine r_val (v:=?qv219) (by kernel_rfl) (fun W hW=>?qh219) ?qr219
     case qh219=>have g:=(Below.cell hW (p:=⟨w.heap.size+1,0,none⟩) hzy).trans cy0;go_light;go_simp;rfl
     simp only[Pu]
     refine rv ?_;simp only[Pu]
     refine r_val (v:=?qv221) (by kernel_rfl) (fun W hW=>?qh221) ?qr221
     case qh221=>have g:=(Below.cell hW (p:=⟨w.heap.size,0,none⟩) hzx).trans cx0;go_light;go_simp;rfl
     simp only[Pu]
     iterate 4 (refine rv ?_;simp only[Pu])
     refine r_nil ?_
     intro w8 hw8
     go_wp2
     go_ret
     exact ⟨ret_b (by rw[HF.out,e1,h2,e3,e4];rfl),HG.out.trans hw8⟩
   ·
    have e3:decide (X1*X2<Y1*Y2)=false:=decide_eq_false h3
    clear q1 q3
    go_enter Tryz.func29,Tryz.ntmps29
    go_upto_region 1 with (fail)
    rw[←HV.out]
    clear HV
    refine region_R (by kernel_rfl) (by kernel_rfl) ?_
    refine rv ?_;simp only[Pu]
    refine r_val (v:=?qv227) (by kernel_rfl) (fun W hW=>?qh227) ?qr227
    case qh227=>have g:=(Below.cell hW (p:=⟨w.heap.size+1,0,none⟩) hzy).trans cy0;go_light;go_simp;rfl
    simp only[Pu]
    refine rv ?_;simp only[Pu]
    refine r_val (v:=?qv229) (by kernel_rfl) (fun W hW=>?qh229) ?qr229
    case qh229=>have g:=(Below.cell hW (p:=⟨w.heap.size,0,none⟩) hzx).trans cx0;go_light;go_simp;rfl
    simp only[Pu]
    iterate 3 (refine rv ?_;simp only[Pu])
    refine r_val (v:=?qv233) (by kernel_rfl) (fun W hW=>?qh233) ?qr233
    case qh233=>have g:=(Below.cell hW (p:=⟨w.heap.size+1,0,none⟩) hzy).trans cy0;go_light;go_simp;rfl
    simp only[Pu]
    refine rv ?_;simp only[Pu]
    refine r_val (v:=?qv235) (by kernel_rfl) (fun W hW=>?qh235) ?qr235
    case qh235=>have g:=(Below.cell hW (p:=⟨w.heap.size,0,none⟩) hzx).trans cx0;go_light;go_simp;rfl
    simp only[Pu]
    iterate 5 (refine rv ?_;simp only[Pu])
    refine r_val (v:=?qv241) (by kernel_rfl) (fun W hW=>?qh241) ?qr241
    case qh241=>have g:=(Below.cell hW (p:=⟨w.heap.size+1,0,none⟩) hzy).trans cy0;go_light;go_simp;rfl
    simp only[Pu]
    refine rv ?_;simp only[Pu]
    refine r_val (v:=?qv243) (by kernel_rfl) (fun W hW=>?qh243) ?qr243
    case qh243=>have g:=(Below.cell hW (p:=⟨w.heap.size+1,1,none⟩) hzy).trans cy1;go_light;go_simp;rfl
    simp only[Pu]
    iterate 2 (refine rv ?_;simp only[Pu])
    refine r_val (v:=?qv246) (by kernel_rfl) (fun W hW=>?qh246) ?qr246
    case qh246=>have g:=(Below.cell hW (p:=⟨w.heap.size,0,none⟩) hzx).trans cx0;go_light;go_simp;rfl
    simp only[Pu]
    refine rv ?_;simp only[Pu]
    refine r_val (v:=?qv248) (by kernel_rfl) (fun W hW=>?qh248) ?qr248
    case qh248=>have g:=(Below.cell hW (p:=⟨w.heap.size,1,none⟩) hzx).trans cx1;go_light;go_simp;rfl
    simp only[Pu]
    iterate 4 (refine rv ?_;simp only[Pu])
    iterate 8 (refine rs ?_;simp only[Pu])
    iterate 2 (refine rv ?_;simp only[Pu])
    refine r_nil ?_
    intro w8 hw8
    go_wp2
    go_ret
    exact ⟨ret_b (by rw[HF.out,e1,h2,e3];rfl),HG.out.trans hw8⟩
 ·
  have e1:decide (X1<Y1)=false:=decide_eq_false h1
  clear q1 q2 q3 hm1 hm2
  go_enter Tryz.func29,Tryz.ntmps29
  go_upto_region 1 with (fail)
  rw[←HV.out]
  clear HV
  refine region_R (by kernel_rfl) (by kernel_rfl) ?_
  refine rv ?_;simp only[Pu]
  refine r_val (v:=?qv256) (by kernel_rfl) (fun W hW=>?qh256) ?qr256
  case qh256=>have g:=(Below.cell hW (p:=⟨w.heap.size+1,0,none⟩) hzy).trans cy0;go_light;go_simp;rfl
  simp only[Pu]
  refine rv ?_;simp only[Pu]
  refine r_val (v:=?qv258) (by kernel_rfl) (fun W hW=>?qh258) ?qr258
  case qh258=>have g:=(Below.cell hW (p:=⟨w.heap.size,0,none⟩) hzx).trans cx0;go_light;go_simp;rfl
  simp only[Pu]
  iterate 2 (refine rv ?_;simp only[Pu])
  iterate 6 (refine rs ?_;simp only[Pu])
  iterate 2 (refine rv ?_;simp only[Pu])
  iterate 11 (refine rs ?_;simp only[Pu])
  iterate 2 (refine rv ?_;simp only[Pu])
  iterate 8 (refine rs ?_;simp only[Pu])
  iterate 2 (refine rv ?_;simp only[Pu])
  refine r_nil ?_
  intro w8 hw8
  go_wp2
  go_ret
  exact ⟨ret_b (by rw[HF.out,e1];rfl),HG.out.trans hw8⟩
theorem ints_at (l:List (Nat×Nat)) (k:Nat) (h:k<l.length) {h':k<(ints l).length}:(ints l)[k]=((l[k].1:Int),(l[k].2:Int)):=by simp[ints]
theorem whead_size (ag xf:Int) (A:Option Addr) (c:Nat) (l:List (Nat×Nat)) (hl:l.length≤8) (h2:∀a∈l,a.2≤16777216) (w:World) (hr:Ri w A (ints l)):Calls Tryz.prog 70 #[.agg #[.int .i64 ag, .int .i64 xf, .slice A l.length c]] w fun e w'=>e= .returned (.int .i64 (sizeS l:Nat))∧Gr w w':=by
 have hli:(l.length:Int)≤8:=by omega
 obtain ⟨V,hV⟩:∃V,V=w.alloc (.cells #[.int .i64 ag, .int .i64 xf, .slice A l.length c] 24):=⟨_,rfl⟩
 have gV:Gr w V:=by rw[hV];exact Gr.alloc (Gr.refl w) _
 have hz:w.heap.size<V.heap.size:=by rw[hV];simp
 have c2:V.cell? ⟨w.heap.size,2,none⟩=some (.slice A l.length c):=by rw[hV];go_simp
 have HV:=Lib.hid hV
 have HG:=Lib.hid gV
 have HR:=Lib.hid (hr.gr gV)
 have HB:=Lib.hid (And.intro hl h2)
 clear hV gV hr hl h2
 go_enter Tryz.func70,Tryz.ntmps70
 go_upto_region 1 with (fail)
 rw[←HV.out]
 clear HV
 go_wp2
 go_loopw [9,3] (fun i n wr=>∃k:Nat,k≤l.length∧i= .int .i64 k∧n= .int .i64 (sizeS (l.take k):Nat)∧Gr V wr) (fun i _ _=>l.length-(intOf i).toNat)
 case atStart=>exact ⟨0,Nat.zero_le _,rfl,rfl,Gr.refl _⟩
 case round=>
  obtain ⟨k,hk,rfl,rfl,hgr⟩:=hrel
  by_cases hlt:k<l.length
  ·
   have hlt':(k:Int)<(l.length:Int):=by omega
   obtain ⟨ad,rfl,hb,hc⟩:=(HR.out.gr hgr) (by rw[ints_len];omega)
   obtain ⟨d0,d1⟩:=hc k (by rw[ints_len];exact hlt)
   rw[ints_at l k hlt] at d0 d1
   simp only at d0 d1
   have hs:=sizeS_take hlt
   have hb1:=HB.out.2 l[k] (List.getElem_mem hlt)
   have hb2:=sizeS_bound (l.take (k+1)) (fun a ha=>HB.out.2 a (List.mem_of_mem_take ha))
   rw[List.length_take,Nat.min_eq_left (by omega)] at hb2
   have HS:=Lib.hid hs
   have Hgr:=Lib.hid hgr
   generalize l[k].1=x1 at *
   generalize l[k].2=x2 at *
   obtain ⟨N,hN⟩:∃N,N=sizeS (l.take k):=⟨_,rfl⟩
   rw[←hN] at HS ⊢
   have hNi:(N:Int)+(12+12*(x2:Int))≤2000000000:=by have:=HS.out;omega
   have hx2:(x2:Int)≤16777216:=by omega
   clear hc hs hb1 hb2 hgr hN
   go_wp2
   go_roundw
   case rel=>exact ⟨k+1,by omega,by go_num,by rw[HS.out];go_num,gq⟩
   case measure=>simp[intOf];omega
  ·
   have hkk:k=l.length:=by omega
   subst hkk
   have HK:=Lib.hid hgr
   clear hgr
   go_wp2
   go_ret
   exact ⟨ret_i (by rw[List.take_length]),HG.out.trans HK.out⟩
theorem rmay_any (ag xf:Int) (A:Option Addr) (c:Nat) (l:List (Int×Int)) (w:World) (hr:Ri w A l):Calls Tryz.prog 6 #[.agg #[.int .i64 ag, .int .i64 xf, .slice A l.length c]] w fun e w'=>e= .returned (.bool (mayH ag xf l))∧Gr w w':=by
 obtain ⟨V,hV⟩:∃V,V=w.alloc (.cells #[.int .i64 ag, .int .i64 xf, .slice A l.length c] 24):=⟨_,rfl⟩
 have gV:Gr w V:=by rw[hV];exact Gr.alloc (Gr.refl w) _
 have hz:w.heap.size<V.heap.size:=by rw[hV];simp
 have c0:V.cell? ⟨w.heap.size,0,none⟩=some (.int .i64 ag):=by rw[hV];go_simp
 have c1:V.cell? ⟨w.heap.size,1,none⟩=some (.int .i64 xf):=by rw[hV];go_simp
 have c2:V.cell? ⟨w.heap.size,2,none⟩=some (.slice A l.length c):=by rw[hV];go_simp
 have HV:=Lib.hid hV
 have HG:=Lib.hid gV
 have HR:=Lib.hid (hr.gr gV)
 clear hV gV hr
 by_cases n1:ag<1
 ·
  have HM:Hid (mayH ag xf l=false):=Lib.hid (mayH_no (.inl n1))
  go_enter Tryz.func6,Tryz.ntmps6
  go_upto_region 1 with (fail)
  rw[←HV.out]
  clear HV
  go_wp2
  go_ret
  exact ⟨by rw[HM.out];rfl,HG.out⟩
 by_cases n2:5<ag
 ·
  have HM:Hid (mayH ag xf l=false):=Lib.hid (mayH_no (.inr (.inl n2)))
  go_enter Tryz.func6,Tryz.ntmps6
  go_upto_region 1 with (fail)
  rw[←HV.out]
  clear HV
  go_wp2
  go_ret
  exact ⟨by rw[HM.out];rfl,HG.out⟩
 by_cases n3:xf<0
 ·
  have HM:Hid (mayH ag xf l=false):=Lib.hid (mayH_no (.inr (.inr (.inl n3))))
  go_enter Tryz.func6,Tryz.ntmps6
  go_upto_region 1 with (fail)
  rw[←HV.out]
  clear HV
  go_wp2
  go_ret
  exact ⟨by rw[HM.out];rfl,HG.out⟩
 by_cases n4:1000000<xf
 ·
  have HM:Hid (mayH ag xf l=false):=Lib.hid (mayH_no (.inr (.inr (.inr n4))))
  go_enter Tryz.func6,Tryz.ntmps6
  go_upto_region 1 with (fail)
  rw[←HV.out]
  clear HV
  go_wp2
  go_ret
  exact ⟨by rw[HM.out];rfl,HG.out⟩
 have HY:=Lib.hid (mayH_yes (l:=l) n1 n2 n3 n4)
 rcases Nat.eq_zero_or_pos l.length with h0|h0
 ·
  have hM:mayH ag xf l=false:=HY.out.trans (mayS_len (.inl (by rw[nats_len];exact h0)))
  have HM:=Lib.hid hM
  clear hM
  have h1:(l.length:Int)<1:=by omega
  clear h0
  go_enter Tryz.func6,Tryz.ntmps6
  go_upto_region 1 with (fail)
  rw[←HV.out]
  clear HV
  go_wp2
  go_ret
  exact ⟨by rw[HM.out];rfl,HG.out⟩
 rcases Nat.lt_or_ge 8 l.length with h8|h8
 ·
  have hM:mayH ag xf l=false:=HY.out.trans (mayS_len (.inr (by rw[nats_len];exact h8)))
  have HM:=Lib.hid hM
  clear hM
  have h1:¬(l.length:Int)<1:=by omega
  have h2:(8:Int)<(l.length:Int):=by omega
  clear h0 h8
  go_enter Tryz.func6,Tryz.ntmps6
  go_upto_region 1 with (fail)
  rw[←HV.out]
  clear HV
  go_wp2
  go_ret
  exact ⟨by rw[HM.out];rfl,HG.out⟩
 have h1:¬(l.length:Int)<1:=by omega
 have h2:¬(8:Int)<(l.length:Int):=by omega
 have H8:=Lib.hid (And.intro h0 h8)
 clear h0 h8
 go_enter Tryz.func6,Tryz.ntmps6
 go_upto_region 1 with (fail)
 rw[←HV.out]
 clear HV
 go_upto_region 3 with (fail)
 clear n1 n2 n3 n4
 go_wp2
 go_loopw [4,3] (fun i n wr=>∃k:Nat,k≤l.length∧i= .int .i64 k∧n= .int .i64 (sizeS ((nats l).take k):Nat)∧sizeS ((nats l).take k)≤1048576∧(∀j,j<k→stepOk (nats l) j=true)∧Gr V wr) (fun i _ _=>l.length-(intOf i).toNat)
 case atStart=>exact ⟨0,Nat.zero_le _,rfl,rfl,by rw[List.take_zero];decide,fun j hj=>absurd hj (Nat.not_lt_zero _),Gr.refl _⟩
 case round=>
  obtain ⟨k,hk,rfl,rfl,hsz,hall,hgr⟩:=hrel
  have Hall:=Lib.hid hall
  have Hgr:=Lib.hid hgr
  have hzw:w.heap.size<wr.heap.size:=Nat.lt_of_lt_of_le hz hgr.size
  have c2':=(Below.cell hgr (p:=⟨w.heap.size,2,none⟩) hz).trans c2
  clear hall c2
  have c2:=c2'
  clear c2'
  by_cases hlt:k<l.length
  ·
   have hlt':(k:Int)<(l.length:Int):=by omega
   obtain ⟨ad,rfl,hb,hc⟩:=(HR.out.gr hgr) (by omega)
   have hbn:∀n,(ad.add n).block<wr.heap.size:=fun n=>by rw[adB];exact hb
   have hl8:(l.length:Int)≤8:=by have:=H8.out.2;omega
   obtain ⟨d0,d1⟩:=hc k hlt
   have Hc:=Lib.hid hc
   have hltn:k<(nats l).length:=by rw[nats_len];exact hlt
   have hst:=stepOk_at (l:=nats l) (k:=k) hltn
   have hsT:=sizeS_take (l:=nats l) (k:=k) hltn
   rw[nats_at l k hlt hltn] at hst hsT
   have hgr0:=Hgr
   clear hc hgr
   have hxl:l[k]=(l[k].1,l[k].2):=rfl
   obtain ⟨x1,hx1⟩:∃x,x=l[k].1:=⟨_,rfl⟩
   obtain ⟨x2,hx2⟩:∃x,x=l[k].2:=⟨_,rfl⟩
   rw[←hx1] at d0 hst hsT
   rw[←hx2] at d1 hst hsT
   have Hst:=Lib.hid hst
   have HsT:=Lib.hid hsT
   clear hx1 hx2 hst hxl hsT
   go_upto_region 8 with (fail)
   obtain ⟨wB,hwB⟩:∃wB,wB=wr.alloc (.cells #[.int .i64 x1, .int .i64 x2] 69):=⟨_,rfl⟩
   have gB:Gr wr wB:=by rw[hwB];exact Gr.alloc (Gr.refl wr) _
   have hz4:wr.heap.size<wB.heap.size:=by rw[hwB];simp
   have e0:wB.cell? ⟨wr.heap.size,0,none⟩=some (.int .i64 x1):=by rw[hwB];go_simp
   have e1:wB.cell? ⟨wr.heap.size,1,none⟩=some (.int .i64 x2):=by rw[hwB];go_simp
   rw[←hwB]
   have hbw:∀n,(ad.add n).block<wB.heap.size:=fun n=>Nat.lt_of_lt_of_le (hbn n) gB.size
   have c2':=(Below.cell gB (p:=⟨w.heap.size,2,none⟩) hzw).trans c2
   have hzw':=Nat.lt_of_lt_of_le hzw gB.size
   have Hc':Hid (∀j (h:j<l.length),wB.cell? (ad.add (j*2))=some (.int .i64 l[j].1)∧wB.cell? ⟨(ad.add (j*2)).block,(ad.add (j*2)).off+1,none⟩=some (.int .i64 l[j].2)):=Lib.hid fun j h=>⟨(Below.cell gB (p:=ad.add (j*2)) (hbn _)).trans (Hc.out j h).1,(Below.cell gB (p:=⟨(ad.add (j*2)).block,(ad.add (j*2)).off+1,none⟩) (hbn _)).trans (Hc.out j h).2⟩
   have HgB:=Lib.hid (hgr0.out.trans gB)
   generalize wr.heap.size=B4 at hz4 e0 e1 ⊢
   clear hwB c0 c1 c2 hzw d0 d1 hb hbn Hc gB
   have c2:=c2'
   have hzw:=hzw'
   clear c2' hzw'
   by_cases m1:x1<1
   ·
    have HM:Hid (mayH ag xf l=false):=Lib.hid (HY.out.trans (mayS_step (by rw[nats_len];exact hlt) (by rw[Hst.out,one_no (by omega)];rfl)))
    have t1:x1<1:=by omega
    have t2:decide (x1<1)=true:=decide_eq_true t1
    clear Hst hlt m1
    refine region_R (by kernel_rfl) (by kernel_rfl) ?_
    refine rv ?_;simp only[Pu]
    refine r_val (v:=?qv2) (by kernel_rfl) (fun W hW=>?qh2) ?qr2
    case qh2=>have g:=(Below.cell hW (p:=⟨B4,0,none⟩) hz4).trans e0;go_light;go_simp;rfl
    simp only[Pu]
    iterate 2 (refine rv ?_;simp only[Pu])
    iterate 3 (refine rs ?_;simp only[Pu])
    iterate 2 (refine rv ?_;simp only[Pu])
    iterate 3 (refine rs ?_;simp only[Pu])
    iterate 2 (refine rv ?_;simp only[Pu])
    iterate 3 (refine rs ?_;simp only[Pu])
    iterate 2 (refine rv ?_;simp only[Pu])
    iterate 13 (refine rs ?_;simp only[Pu])
    refine rv ?_;simp only[Pu]
    refine r_nil ?_
    intro w8 hw8
    have HW9:=Lib.hid hw8
    clear hw8
    go_wp2
    go_ret
    exact ⟨by rw[HM.out];rfl,(HG.out.trans HgB.out).trans HW9.out⟩
   by_cases m2:16777216<x1
   ·
    have HM:Hid (mayH ag xf l=false):=Lib.hid (HY.out.trans (mayS_step (by rw[nats_len];exact hlt) (by rw[Hst.out,one_no (by omega)];rfl)))
    have t1:¬x1<1:=by omega
    have t2:(16777216:Int)<x1:=by omega
    have t3:decide (x1<1)=false:=decide_eq_false t1
    have t4:decide ((16777216:Int)<x1)=true:=decide_eq_true t2
    clear Hst hlt m1 m2
    refine region_R (by kernel_rfl) (by kernel_rfl) ?_
    refine rv ?_;simp only[Pu]
    refine r_val (v:=?qv13) (by kernel_rfl) (fun W hW=>?qh13) ?qr13
    case qh13=>have g:=(Below.cell hW (p:=⟨B4,0,none⟩) hz4).trans e0;go_light;go_simp;rfl
    simp only[Pu]
    iterate 3 (refine rv ?_;simp only[Pu])
    refine r_val (v:=?qv17) (by kernel_rfl) (fun W hW=>?qh17) ?qr17
    case qh17=>have g:=(Below.cell hW (p:=⟨B4,0,none⟩) hz4).trans e0;go_light;go_simp;rfl
    simp only[Pu]
    iterate 3 (refine rv ?_;simp only[Pu])
    iterate 3 (refine rs ?_;simp only[Pu])
    iterate 2 (refine rv ?_;simp only[Pu])
    iterate 3 (refine rs ?_;simp only[Pu])
    iterate 2 (refine rv ?_;simp only[Pu])
    iterate 13 (refine rs ?_;simp only[Pu])
    refine rv ?_;simp only[Pu]
    refine r_nil ?_
    intro w8 hw8
    have HW9:=Lib.hid hw8
    clear hw8
    go_wp2
    go_ret
    exact ⟨by rw[HM.out];rfl,(HG.out.trans HgB.out).trans HW9.out⟩
   by_cases m3:x2<1
   ·
    have HM:Hid (mayH ag xf l=false):=Lib.hid (HY.out.trans (mayS_step (by rw[nats_len];exact hlt) (by rw[Hst.out,one_no (by omega)];rfl)))
    have t1:¬x1<1:=by omega
    have t2:¬(16777216:Int)<x1:=by omega
    have t5:x2<1:=by omega
    have t3:decide (x1<1)=false:=decide_eq_false t1
    have t4:decide ((16777216:Int)<x1)=false:=decide_eq_false t2
    have t6:decide (x2<1)=true:=decide_eq_true t5
    clear Hst hlt m1 m2 m3
    refine region_R (by kernel_rfl) (by kernel_rfl) ?_
    refine rv ?_;simp only[Pu]
    refine r_val (v:=?qv27) (by kernel_rfl) (fun W hW=>?qh27) ?qr27
    case qh27=>have g:=(Below.cell hW (p:=⟨B4,0,none⟩) hz4).trans e0;go_light;go_simp;rfl
    simp only[Pu]
    iterate 3 (refine rv ?_;simp only[Pu])
    refine r_val (v:=?qv31) (by kernel_rfl) (fun W hW=>?qh31) ?qr31
    case qh31=>have g:=(Below.cell hW (p:=⟨B4,0,none⟩) hz4).trans e0;go_light;go_simp;rfl
    simp only[Pu]
    iterate 4 (refine rv ?_;simp only[Pu])
    refine r_val (v:=?qv36) (by kernel_rfl) (fun W hW=>?qh36) ?qr36
    case qh36=>have g:=(Below.cell hW (p:=⟨B4,1,none⟩) hz4).trans e1;go_light;go_simp;rfl
    simp only[Pu]
    iterate 3 (refine rv ?_;simp only[Pu])
    iterate 3 (refine rs ?_;simp only[Pu])
    iterate 2 (refine rv ?_;simp only[Pu])
    iterate 13 (refine rs ?_;simp only[Pu])
    refine rv ?_;simp only[Pu]
    refine r_nil ?_
    intro w8 hw8
    have HW9:=Lib.hid hw8
    clear hw8
    go_wp2
    go_ret
    exact ⟨by rw[HM.out];rfl,(HG.out.trans HgB.out).trans HW9.out⟩
   have t1:¬x1<1:=by omega
   have t2:¬(16777216:Int)<x1:=by omega
   have t5:¬x2<1:=by omega
   have t3:decide (x1<1)=false:=decide_eq_false t1
   have t4:decide ((16777216:Int)<x1)=false:=decide_eq_false t2
   have t6:decide (x2<1)=false:=decide_eq_false t5
   by_cases m4:16777216<x2
   ·
    have HM:Hid (mayH ag xf l=false):=Lib.hid (HY.out.trans (mayS_step (by rw[nats_len];exact hlt) (by rw[Hst.out,one_no (by omega)];rfl)))
    have t7:(16777216:Int)<x2:=by omega
    have t8:decide ((16777216:Int)<x2)=true:=decide_eq_true t7
    clear Hst hlt m1 m2 m3 m4
    refine region_R (by kernel_rfl) (by kernel_rfl) ?_
    refine rv ?_;simp only[Pu]
    refine r_val (v:=?qv44) (by kernel_rfl) (fun W hW=>?qh44) ?qr44
    case qh44=>have g:=(Below.cell hW (p:=⟨B4,0,none⟩) hz4).trans e0;go_light;go_simp;rfl
    simp only[Pu]
    iterate 3 (refine rv ?_;simp only[Pu])
    refine r_val (v:=?qv48) (by kernel_rfl) (fun W hW=>?qh48) ?qr48
    case qh48=>have g:=(Below.cell hW (p:=⟨B4,0,none⟩) hz4).trans e0;go_light;go_simp;rfl
    simp only[Pu]
    iterate 4 (refine rv ?_;simp only[Pu])
    refine r_val (v:=?qv53) (by kernel_rfl) (fun W hW=>?qh53) ?qr53
    case qh53=>have g:=(Below.cell hW (p:=⟨B4,1,none⟩) hz4).trans e1;go_light;go_simp;rfl
    simp only[Pu]
    iterate 4 (refine rv ?_;simp only[Pu])
    refine r_val (v:=?qv58) (by kernel_rfl) (fun W hW=>?qh58) ?qr58
    case qh58=>have g:=(Below.cell hW (p:=⟨B4,1,none⟩) hz4).trans e1;go_light;go_simp;rfl
    simp only[Pu]
    iterate 3 (refine rv ?_;simp only[Pu])
    iterate 13 (refine rs ?_;simp only[Pu])
    refine rv ?_;simp only[Pu]
    refine r_nil ?_
    intro w8 hw8
    have HW9:=Lib.hid hw8
    clear hw8
    go_wp2
    go_ret
    exact ⟨by rw[HM.out];rfl,(HG.out.trans HgB.out).trans HW9.out⟩
   have t7:¬(16777216:Int)<x2:=by omega
   have t8:decide ((16777216:Int)<x2)=false:=decide_eq_false t7
   obtain ⟨z1,rfl⟩:∃z:Nat,x1=z:=⟨x1.toNat,by omega⟩
   obtain ⟨z2,rfl⟩:∃z:Nat,x2=z:=⟨x2.toNat,by omega⟩
   have hst0:=Hst.out
   have hsT0:=HsT.out
   simp only[Int.toNat_natCast] at hst0 hsT0
   clear Hst HsT
   have Hst:=Lib.hid hst0
   have HsT:=Lib.hid hsT0
   clear hst0 hsT0
   have hone:oneOk (z1,z2)=true:=oneOk_iff.2 ⟨by simp only;omega,by simp only;omega,by simp only;omega,by simp only;omega⟩
   have Hone:=Lib.hid hone
   rcases k with _|j
   ·
    have HT:Hid (stepOk (nats l) 0=true):=Lib.hid (by rw[Hst.out,hone];rfl)
    clear hone m1 m2 m3 m4
    have zz1:decide ((0:Int)<((0:Nat):Int))=false:=by decide
    refine region_R (by kernel_rfl) (by kernel_rfl) ?_
    refine rv ?_;simp only[Pu]
    refine r_val (v:=?qv97) (by kernel_rfl) (fun W hW=>?qh97) ?qr97
    case qh97=>have g:=(Below.cell hW (p:=⟨B4,0,none⟩) hz4).trans e0;go_light;go_simp;rfl
    simp only[Pu]
    iterate 3 (refine rv ?_;simp only[Pu])
    refine r_val (v:=?qv101) (by kernel_rfl) (fun W hW=>?qh101) ?qr101
    case qh101=>have g:=(Below.cell hW (p:=⟨B4,0,none⟩) hz4).trans e0;go_light;go_simp;rfl
    simp only[Pu]
    iterate 4 (refine rv ?_;simp only[Pu])
    refine r_val (v:=?qv106) (by kernel_rfl) (fun W hW=>?qh106) ?qr106
    case qh106=>have g:=(Below.cell hW (p:=⟨B4,1,none⟩) hz4).trans e1;go_light;go_simp;rfl
    simp only[Pu]
    iterate 4 (refine rv ?_;simp only[Pu])
    refine r_val (v:=?qv111) (by kernel_rfl) (fun W hW=>?qh111) ?qr111
    case qh111=>have g:=(Below.cell hW (p:=⟨B4,1,none⟩) hz4).trans e1;go_light;go_simp;rfl
    simp only[Pu]
    iterate 6 (refine rv ?_;simp only[Pu])
    iterate 9 (refine rs ?_;simp only[Pu])
    iterate 2 (refine rv ?_;simp only[Pu])
    refine r_nil ?_
    intro w8 hw8
    have e1a:=(Below.cell hw8 (p:=⟨B4,1,none⟩) hz4).trans e1
    have hz8:=Nat.lt_of_lt_of_le hz4 hw8.size
    have c2a:=(Below.cell hw8 (p:=⟨w.heap.size,2,none⟩) hzw).trans c2
    have H8w:=Lib.hid (HgB.out.trans hw8)
    clear e0 e1 c2 hz4 hw8
    have hs:=HsT.out
    obtain ⟨N,hN⟩:∃N,N=sizeS ((nats l).take (0)):=⟨_,rfl⟩
    rw[←hN] at hs hsz ⊢
    have HS:=Lib.hid hs
    have hNi:(N:Int)≤1048576:=by omega
    have hx2i:(z2:Int)≤16777216:=by omega
    clear hN hs hsz
    by_cases big:N+(12+12*z2)≤1048576
    ·
     have big1:¬(1048576:Int)<(N:Int)+12+12*(z2:Int):=by omega
     go_wp2
     go_roundw
     case rel=>exact ⟨0+1,by omega,by go_num,by rw[HS.out];go_num,by rw[HS.out];exact big,(fun i hi=>by rcases Nat.lt_succ_iff_lt_or_eq.1 hi with h|h;exact Hall.out i h;rw[h];exact HT.out),H8w.out⟩
     case measure=>simp[intOf];omega
    ·
     have big1:(1048576:Int)<(N:Int)+12+12*(z2:Int):=by omega
     have HM:Hid (mayH ag xf l=false):=Lib.hid (HY.out.trans (mayS_size (Nat.lt_of_lt_of_le (by rw[HS.out];omega) (sizeS_mono (nats l) (0+1)))))
     clear big
     go_wp2
     go_ret
     exact ⟨by rw[HM.out];rfl,HG.out.trans H8w.out⟩
   ·
    have hj:j<l.length:=by omega
    obtain ⟨p0,p1⟩:=Hc'.out j hj
    have hjn:j<(nats l).length:=by rw[nats_len];exact hj
    have hone1:oneOk (nats l)[j]=true:=by
     have:=Hall.out j (Nat.lt_succ_self _)
     rw[stepOk_at hjn,Bool.and_eq_true] at this
     exact this.1
    rw[nats_one hj hjn hone1] at p0 p1
    obtain ⟨y,hy⟩:∃y,y=(nats l)[j]:=⟨_,rfl⟩
    have hst:=Hst.out
    simp only[Nat.add_sub_cancel] at hst
    rw[←hy] at hone1 p0 p1 hst
    obtain ⟨F,hF⟩:∃F,F=fitsS y (z1,z2):=⟨_,rfl⟩
    have hst2:stepOk (nats l) (j+1)=F:=by rw[hst,hone,hF];simp
    have hcall:=fun W=>rside_any y (z1,z2) hone1 hone W
    rw[←hF] at hcall
    obtain ⟨y1,y2⟩:=y
    simp only at p0 p1 hcall
    have HCALL:=Lib.hid hcall
    have HST:=Lib.hid hst2
    have zz1:decide ((0:Int)<(j:Int)+1)=true:=by rw[decide_eq_true_eq];omega
    have zz2:(0:Int)<(j:Int)+1:=by omega
    have hji:(j:Int)≤400:=by omega
    have zw:IntKind.i64.wrap (j:Int)=(j:Int):=IntWalk.i64_in (j:Int) (by omega)
    have hjl:(j:Int)<(l.length:Int):=by omega
    clear hone hone1 hF hst hst2 hcall hy hj hjn m1 m2 m3 m4
    cases F with
    | false=>
     have HM:Hid (mayH ag xf l=false):=Lib.hid (HY.out.trans (mayS_step (by rw[nats_len];exact hlt) HST.out))
     clear Hst hlt
     refine region_R (by kernel_rfl) (by kernel_rfl) ?_
     refine rv ?_;simp only[Pu]
     refine r_val (v:=?qv64) (by kernel_rfl) (fun W hW=>?qh64) ?qr64
     case qh64=>have g:=(Below.cell hW (p:=⟨B4,0,none⟩) hz4).trans e0;go_light;go_simp;rfl
     simp only[Pu]
     iterate 3 (refine rv ?_;simp only[Pu])
     refine r_val (v:=?qv68) (by kernel_rfl) (fun W hW=>?qh68) ?qr68
     case qh68=>have g:=(Below.cell hW (p:=⟨B4,0,none⟩) hz4).trans e0;go_light;go_simp;rfl
     simp only[Pu]
     iterate 4 (refine rv ?_;simp only[Pu])
     refine r_val (v:=?qv73) (by kernel_rfl) (fun W hW=>?qh73) ?qr73
     case qh73=>have g:=(Below.cell hW (p:=⟨B4,1,none⟩) hz4).trans e1;go_light;go_simp;rfl
     simp only[Pu]
     iterate 4 (refine rv ?_;simp only[Pu])
     refine r_val (v:=?qv78) (by kernel_rfl) (fun W hW=>?qh78) ?qr78
     case qh78=>have g:=(Below.cell hW (p:=⟨B4,1,none⟩) hz4).trans e1;go_light;go_simp;rfl
     simp only[Pu]
     iterate 7 (refine rv ?_;simp only[Pu])
     refine r_val (v:=?qv86) (by kernel_rfl) (fun W hW=>?qh86) ?qr86
     case qh86=>have g:=(Below.cell hW (p:=⟨w.heap.size,2,none⟩) hzw).trans c2;go_light;go_simp;rfl
     simp only[Pu]
     iterate 3 (refine rv ?_;simp only[Pu])
     refine r_val (v:=?qv90) (by kernel_rfl) (fun W hW=>?qh90) ?qr90
     case qh90=>have g:=(Below.cell hW (p:=ad.add (j*2)) (hbw _)).trans p0;have g2:=(Below.cell hW (p:=⟨(ad.add (j*2)).block,(ad.add (j*2)).off+1,none⟩) (hbw _)).trans p1;go_light;go_simp;rfl
     simp only[Pu]
     refine r_val (v:=?qv91) (by kernel_rfl) (fun W hW=>?qh91) ?qr91
     case qh91=>have g:=(Below.cell hW (p:=⟨B4,0,none⟩) hz4).trans e0;have g2:=(Below.cell hW (p:=⟨B4,1,none⟩) hz4).trans e1;go_light;go_simp;rfl
     simp only[Pu]
     refine r_call (v:= .bool false) (f:=?qf92) (args:=?qa92) (by kernel_rfl) (fun W hW=>?qh92) (fun W hW=>?qc92) ?qr92
     case qh92=>go_light;go_simp;constructor<;>rfl
     case qc92=>exact (HCALL.out _).mono (fun e w' h=>⟨h.1,Gr.trans hW h.2⟩)
     simp only[Pu]
     iterate 3 (refine rv ?_;simp only[Pu])
     refine r_nil ?_
     intro w8 hw8
     have HW9:=Lib.hid hw8
     clear hw8
     go_wp2
     go_ret
     exact ⟨by rw[HM.out];rfl,(HG.out.trans HgB.out).trans HW9.out⟩
    | true=>
     refine region_R (by kernel_rfl) (by kernel_rfl) ?_
     refine rv ?_;simp only[Pu]
     refine r_val (v:=?qv121) (by kernel_rfl) (fun W hW=>?qh121) ?qr121
     case qh121=>have g:=(Below.cell hW (p:=⟨B4,0,none⟩) hz4).trans e0;go_light;go_simp;rfl
     simp only[Pu]
     iterate 3 (refine rv ?_;simp only[Pu])
     refine r_val (v:=?qv125) (by kernel_rfl) (fun W hW=>?qh125) ?qr125
     case qh125=>have g:=(Below.cell hW (p:=⟨B4,0,none⟩) hz4).trans e0;go_light;go_simp;rfl
     simp only[Pu]
     iterate 4 (refine rv ?_;simp only[Pu])
     refine r_val (v:=?qv130) (by kernel_rfl) (fun W hW=>?qh130) ?qr130
     case qh130=>have g:=(Below.cell hW (p:=⟨B4,1,none⟩) hz4).trans e1;go_light;go_simp;rfl
     simp only[Pu]
     iterate 4 (refine rv ?_;simp only[Pu])
     refine r_val (v:=?qv135) (by kernel_rfl) (fun W hW=>?qh135) ?qr135
     case qh135=>have g:=(Below.cell hW (p:=⟨B4,1,none⟩) hz4).trans e1;go_light;go_simp;rfl
     simp only[Pu]
     iterate 7 (refine rv ?_;simp only[Pu])
     refine r_val (v:=?qv143) (by kernel_rfl) (fun W hW=>?qh143) ?qr143
     case qh143=>have g:=(Below.cell hW (p:=⟨w.heap.size,2,none⟩) hzw).trans c2;go_light;go_simp;rfl
     simp only[Pu]
     iterate 3 (refine rv ?_;simp only[Pu])
     refine r_val (v:=?qv147) (by kernel_rfl) (fun W hW=>?qh147) ?qr147
     case qh147=>have g:=(Below.cell hW (p:=ad.add (j*2)) (hbw _)).trans p0;have g2:=(Below.cell hW (p:=⟨(ad.add (j*2)).block,(ad.add (j*2)).off+1,none⟩) (hbw _)).trans p1;go_light;go_simp;rfl
     simp only[Pu]
     refine r_val (v:=?qv148) (by kernel_rfl) (fun W hW=>?qh148) ?qr148
     case qh148=>have g:=(Below.cell hW (p:=⟨B4,0,none⟩) hz4).trans e0;have g2:=(Below.cell hW (p:=⟨B4,1,none⟩) hz4).trans e1;go_light;go_simp;rfl
     simp only[Pu]
     refine r_call (v:= .bool true) (f:=?qf149) (args:=?qa149) (by kernel_rfl) (fun W hW=>?qh149) (fun W hW=>?qc149) ?qr149
     case qh149=>go_light;go_simp;constructor<;>rfl
     case qc149=>exact (HCALL.out _).mono (fun e w' h=>⟨h.1,Gr.trans hW h.2⟩)
     simp only[Pu]
     iterate 3 (refine rv ?_;simp only[Pu])
     refine r_nil ?_
     intro w8 hw8
     have e1a:=(Below.cell hw8 (p:=⟨B4,1,none⟩) hz4).trans e1
     have hz8:=Nat.lt_of_lt_of_le hz4 hw8.size
     have c2a:=(Below.cell hw8 (p:=⟨w.heap.size,2,none⟩) hzw).trans c2
     have H8w:=Lib.hid (HgB.out.trans hw8)
     clear e0 e1 c2 hz4 hw8
     have hs:=HsT.out
     obtain ⟨N,hN⟩:∃N,N=sizeS ((nats l).take (j+1)):=⟨_,rfl⟩
     rw[←hN] at hs hsz ⊢
     have HS:=Lib.hid hs
     have hNi:(N:Int)≤1048576:=by omega
     have hx2i:(z2:Int)≤16777216:=by omega
     clear hN hs hsz
     by_cases big:N+(12+12*z2)≤1048576
     ·
      have big1:¬(1048576:Int)<(N:Int)+12+12*(z2:Int):=by omega
      go_wp2
      go_roundw
      case rel=>exact ⟨j+1+1,by omega,by go_num,by rw[HS.out];go_num,by rw[HS.out];exact big,(fun i hi=>by rcases Nat.lt_succ_iff_lt_or_eq.1 hi with h|h;exact Hall.out i h;rw[h];exact HST.out),H8w.out⟩
      case measure=>simp[intOf];omega
     ·
      have big1:(1048576:Int)<(N:Int)+12+12*(z2:Int):=by omega
      have HM:Hid (mayH ag xf l=false):=Lib.hid (HY.out.trans (mayS_size (Nat.lt_of_lt_of_le (by rw[HS.out];omega) (sizeS_mono (nats l) (j+1+1)))))
      clear big
      go_wp2
      go_ret
      exact ⟨by rw[HM.out];rfl,HG.out.trans H8w.out⟩
  ·
   have hkk:k=l.length:=by omega
   subst hkk
   have hx:=H8.out.1
   obtain ⟨m,hm⟩:∃m,l.length=m+1:=⟨l.length-1,by omega⟩
   have hml:m<l.length:=by omega
   obtain ⟨ad,rfl,hb,hc⟩:=(HR.out.gr hgr) hx
   obtain ⟨d0,d1⟩:=hc m hml
   have hmn:m<(nats l).length:=by rw[nats_len];exact hml
   have hone:∀j (h:j<(nats l).length),oneOk (nats l)[j]=true:=fun j h=>by
    have:=Hall.out j (by rw[nats_len] at h;exact h)
    rw[stepOk_at h,Bool.and_eq_true] at this
    exact this.1
   have hszn:sizeS (nats l)≤1048576:=by
    rw[List.take_of_length_le (by rw[nats_len];exact Nat.le_refl _)] at hsz
    exact hsz
   obtain ⟨L,hL⟩:∃L,L=nats l:=⟨_,rfl⟩
   have hlast:lastS L=L[m]'(by rw[hL];exact hmn):=by rw[lastS_at (by rw[hL,nats_len];exact hx)];congr 1;rw[hL,nats_len];omega
   have hol:=oneOk_iff.1 (hone m hmn)
   have hrest:=mayS_rest (l:=nats l) (by rw[nats_len];exact hx) (by rw[nats_len];exact H8.out.2) (fun k hk=>Hall.out k (by rw[nats_len] at hk;exact hk)) hszn
   rw[nats_one hml hmn (hone m hmn)] at d0 d1
   simp only[←hL] at hol hrest d0 d1
   rw[hlast] at hrest
   obtain ⟨x1,hx1⟩:∃x,x=(L[m]'(by rw[hL];exact hmn)).1:=⟨_,rfl⟩
   obtain ⟨x2,hx2⟩:∃x,x=(L[m]'(by rw[hL];exact hmn)).2:=⟨_,rfl⟩
   rw[←hx1] at d0 hol hrest
   rw[←hx2] at d1 hol hrest
   have hw:=prod_small (x1:Int) x2 (by omega) (by omega) (by omega) (by omega)
   have HYL:Hid (mayH ag xf l=mayS L):=Lib.hid (by rw[hL];exact HY.out)
   have Hrest:=Lib.hid hrest
   clear hx1 hx2 hlast hone hol hrest hc hx hL hmn hszn
   rw[hm] at c2 ⊢
   have hmi:(m:Int)≤400:=by omega
   have zm:IntKind.i64.wrap (m:Int)=(m:Int):=IntWalk.i64_in (m:Int) (by omega)
   clear hlt h1 h2 hml
   go_upto_region 14 with (fail)
   obtain ⟨wC,hwC⟩:∃wC,wC=wr.alloc (.cells #[.int .i64 x1, .int .i64 x2] 69):=⟨_,rfl⟩
   have gC:Gr wr wC:=by rw[hwC];exact Gr.alloc (Gr.refl wr) _
   have hz5:wr.heap.size<wC.heap.size:=by rw[hwC];simp
   have e0:wC.cell? ⟨wr.heap.size,0,none⟩=some (.int .i64 x1):=by rw[hwC];go_simp
   have e1:wC.cell? ⟨wr.heap.size,1,none⟩=some (.int .i64 x2):=by rw[hwC];go_simp
   rw[←hwC]
   have c0':=(Below.cell (hgr.trans gC) (p:=⟨w.heap.size,0,none⟩) hz).trans c0
   have c1':=(Below.cell (hgr.trans gC) (p:=⟨w.heap.size,1,none⟩) hz).trans c1
   have c2':=(Below.cell gC (p:=⟨w.heap.size,2,none⟩) hzw).trans c2
   have HGC:=Lib.hid (hgr.trans gC)
   generalize wr.heap.size=B5 at hz5 e0 e1 ⊢
   clear hwC gC c0 c1 c2 d0 d1 hb
   have hM:=Hrest.out
   clear hm hgr hsz
   by_cases u1:x1*x2≤maxTime
   ·
    have u2:(x1:Int)*(x2:Int)≤4294967295:=by rw[←Int.natCast_mul];unfold maxTime at u1;omega
    have u3:decide ((x1:Int)*(x2:Int)≤4294967295)=true:=decide_eq_true u2
    have HM:Hid (mayH ag xf l=true):=Lib.hid (by rw[HYL.out,hM,Nat.ble_eq];exact u1)
    clear u1 hM
    go_wp2
    go_ret
    exact ⟨ret_b (by rw[HM.out]),HG.out.trans HGC.out⟩
   ·
    have u2:¬(x1:Int)*(x2:Int)≤4294967295:=by rw[←Int.natCast_mul];unfold maxTime at u1;omega
    have u3:decide ((x1:Int)*(x2:Int)≤4294967295)=false:=decide_eq_false u2
    have HM:Hid (mayH ag xf l=false):=Lib.hid (by rw[HYL.out,hM,Bool.eq_false_iff,ne_eq,Nat.ble_eq];exact u1)
    clear u1 hM
    go_wp2
    go_ret
    exact ⟨ret_b (by rw[HM.out]),HG.out.trans HGC.out⟩
end Go.Proofs.YtoncapkmaeghfaaGreat
