import Derived.Test.YtjapddfnpmlifaaGreatDoorRunRfCut
import Derived.Test.YtjapddfnpmlifaaGreatDoorRunFxBase
import Derived.Deep.Cut
import Derived.Deep.CutRange
import Derived.Deep.Light
set_option linter.all false
set_option maxRecDepth 1000000
set_option maxHeartbeats 12800000
namespace Go.Proofs.YtjapddfnpmlifaaGreatDoor
open Go.RowKit
structure CQ (R:Nat) (w0:World) (G:Bs) (s:ByteArray) (n d e g:Nat) (A:Option Addr) (code:List In) (W:World):Prop where
 x:GX R w0 W
 b:SetQ W w0.heap.size noB
 a:SetQ W (w0.heap.size+1) G
 r:RfW W R s n d e g A code
section
variable {R n d e g:Nat} {w0:World} {G:Bs} {s:ByteArray} {A:Option Addr} {code:List In} {W W':World}
theorem CQ.gr (h:CQ R w0 G s n d e g A code W) (k:Gr W W'):CQ R w0 G s n d e g A code W':=⟨h.x.trans (GX.of_gr k),h.b.gr k,h.a.gr k,h.r.gr k⟩
theorem CQ.rd (h:CQ R w0 G s n d e g A code W) (x:GX R W W') {n':Nat} (r:RfW W' R s n' d e g A code) (hR:R<w0.heap.size):CQ R w0 G s n' d e g A code W':=⟨h.x.trans x,h.b.gx x (by omega),h.a.gx x (by omega),r⟩
theorem CQ.cell (h:CQ R w0 G s n d e g A code W) (hR:R<w0.heap.size) {H:Bs} (i:Nat) (v:Bool) (hA:∀k,blk A=some k->k<w0.heap.size) (hH:∀j,j<256->(bif j==i then v else G j)=H j):CQ R w0 H s n d e g A code (W.setCell ⟨w0.heap.size+1,i,none⟩ (.bool v)):=
 ⟨h.x.setCell (.inr (by show w0.heap.size<=w0.heap.size+1;omega)) _,h.b.other (by show w0.heap.size≠w0.heap.size+1;omega) _,(h.a.set i v).eq hH,h.r.kept (by simp) (heap_setCell_other W _ R _ (by show R≠w0.heap.size+1;omega)) λk hk=>heap_setCell_other W _ k _ (by have:=hA k hk;show k≠w0.heap.size+1;omega)⟩
end
theorem RfW.n {w:World} {R n d e g:Nat} {s:ByteArray} {A:Option Addr} {code:List In} (h:RfW w R s n d e g A code):rdN R w=n:=by
 obtain ⟨c,h⟩:=h;unfold rdN;rw[h.c1];simp[intOf]
def RetK (w:World) (R:Nat) (s:ByteArray) (d e g:Nat) (A:Option Addr) (code:List In) (T:Option Bs×List UInt8) (x:Ending) (w':World):Prop:=
 ∃f n',x= .returned (.tuple #[.agg (bsA f), .bool T.1.isSome])/\RfW w' R s n' d e g A code/\GX R w w'/\n'<=s.size+1/\(∀F,T.1=some F->f=F/\s.data.toList.drop n'=T.2/\n'<=s.size)
theorem ranges_45 {r:List UInt8} (h:headIs 45 r=false):rangesS r=false:=by
 match r with
 | []=>rfl
 | [_]=>rfl
 | y::d::t=>simp only[headIs] at h;simp[rangesS,h]
theorem ranges_six {y d:UInt8} (hy:y.toNat=45) (hd:d.toNat≠93) (t:List UInt8):rangesS (y::d::t)= !sxB (d::t):=by
 have h1:(y.toNat==45)=true:=by simp[hy]
 have h2:(d.toNat==93)=false:=beq_eq_false_iff_ne.2 hd;cases t with
 | nil=>simp only[rangesS,sxB,h1,h2];simp
 | cons e t=>
  simp only[rangesS,sxB,h1,h2];cases (d.toNat==92)<;>cases isNamed e.toNat<;>rfl
theorem wp_load_rowX {P:Program} {o:Oper} {a:Act} {W:World} {K:Act->World->Prop} {Q:Exit->Act->World->Prop} {ty:TypeId} {x:Operand} (ho:o.op= .load ty x)
  (g:Nat) (hx:a.eval x= .pointer (some ⟨g,0,none⟩)) {t:TypeId} {cs:Array Value} {fr:Nat×Nat} {d:TypeDesc} (hg:W.heap[g]?=some (.cells cs t fr))
  (hu:P.underlying ty=some d) (hd:(match d with| .struct _| .array _ _=>true|_=>false)=true) (hi:(P.info? ty).map (·.size)=some cs.size) (h:K (a.put o.dst (.agg cs)) W):Oper.wp P o a W K Q:=by
 unfold Oper.wp;rw[exec_load_row ty x ho g hx hg hu hd hi];exact h
theorem range_wd {y d:UInt8} {t r:List UInt8} {f:Bs} {b:Nat} {wd:Bool} (h:rangesS (y::d::t)=true) (hx:sideS (d::t)=(some (f,b,wd),r)):wd=false:=by
 simp only[rangesS,Bool.and_eq_true] at h;simp only[sideS] at hx;cases hb:(d.toNat==92)
 ·rw[hb] at hx;simp only[cond_false] at hx;injection hx with hx1 _;injection hx1 with hx1;injection hx1 with _ hx3;injection hx3 with _ hw;exact hw.symm
 ·rw[hb] at hx h;simp only[cond_true] at hx;cases t with
  | nil=>simp at hx
  | cons e t=>
   simp only[Bool.not_true,Bool.false_or] at h;have hn:isNamed e.toNat=false:=by have:=h.2;simpa using this
   simp only at hx;generalize escS (e::t)=u at hx;obtain ⟨_|q,u⟩:=u
   ·simp at hx
   ·simp only at hx;injection hx with hx1 _;injection hx1 with hx1;injection hx1 with _ hx3;injection hx3 with _ hw;rw[<-hw];exact hn
theorem rclass_any {w:World} {R n d e g:Nat} {s:ByteArray} {A:Option Addr} {code:List In} (h:RfW w R s n d e g A code) (hs:(s.size:Int)<=4096) (hn:n<s.size):Calls Tryz.prog 159 #[.pointer (some ⟨R,0,none⟩)] w (RetK w R s d e g A code (classS (s.data.toList.drop (n+1)))):=by
 obtain ⟨nt,r0,K,hnt,hr0,hK,hcl⟩:=classS_eq (s.data.toList.drop (n+1));rw[hcl];have hRw:=h.lt;have hAw:∀k,blk A=some k->k<w.heap.size:=λk hk=>(h.row k hk).2;obtain ⟨hz0,hsz0⟩:=zero_of_info info_arr;obtain ⟨T,hT⟩:∃T,clsS K true noB r0=T:=⟨_,rfl⟩
 rw[hT];have C0:CQ R w noB s n d e g A code ((w.alloc (Obj.cells (bsA noB) 215)).alloc (Obj.cells (bsA noB) 215)):=by
  have g:Gr w ((w.alloc (Obj.cells (bsA noB) 215)).alloc (Obj.cells (bsA noB) 215)):=Gr.alloc (Gr.alloc (Gr.refl _) _) _;refine ⟨GX.of_gr g,(SetQ.new w noB).gr (Gr.alloc (Gr.refl _) _),?_,h.gr g⟩;have:=SetQ.new (w.alloc (Obj.cells (bsA noB) 215)) noB;simpa using this
 have HT:=Lib.hid (And.intro hT (And.intro hnt (And.intro hr0 hK)));have hn4:(n:Int)<4096:=by omega
 clear hcl hT hnt hr0 hK h;go_enter Tryz.func159,Tryz.ntmps159;go_upto_region 2 with (fail)
 generalize ((w.alloc (Obj.cells (bsA noB) 215)).alloc (Obj.cells (bsA noB) 215))=w1 at C0 ⊢;obtain ⟨cc1,hc1⟩:=id C0.r;obtain ⟨c1,f1⟩:=And.intro hc1.c1 hc1.f1;clear hc1;go_upto_region 3 with (fail)
 have C1:=C0.rd (GX.setCell (p:=⟨R,1,none⟩) (GX.refl R w1) (.inl rfl) (.int .i64 ((n:Int)+1))) (by have t:=C0.r.setAt (n+1);rwa [show ((n+1:Nat):Int)=(n:Int)+1 by omega] at t) hRw;clear C0 c1 f1;generalize w1.setCell ⟨R,1,none⟩ (.int .i64 ((n:Int)+1))=w2 at C1 ⊢;have QM:=Lib.hid (λ(W:World) (hW:RfW W R s (n+1) d e g A code)=>more_any hW hs 94);go_upto_if 22 with (go_at_call 95;refine (QM.out _ C1.r).mono ?_;rintro x w3 ⟨rfl,g3⟩;have C3:=C1.gr g3)
 rw[<-HT.out.2.1];clear C1 g3 QM
 go_cut [] from 23 to 30 (λwx=>∃n1,n1<=s.size/\s.data.toList.drop n1=r0/\CQ R w noB s n1 d e g A code wx)
 case first=>
  cases nt
  ·go_wp2_with (fail);go_meet;case rel=>exact ⟨n+1,by omega,by have:=HT.out.2.2.1;simpa using this.symm,C3⟩
  ·have hh:headIs 94 (s.data.toList.drop (n+1))=true:=HT.out.2.1.symm;obtain ⟨y,t,hyt, -⟩:=headIs_cons hh;have hl:=congrArg List.length hyt;simp at hl;have hn5:(n:Int)+1<4096:=by omega
   have hn6:n+2<=s.size:=by omega
   obtain ⟨cc1,hc1⟩:=id C3.r;obtain ⟨c1,f1⟩:=And.intro hc1.c1 hc1.f1;rw[show ((n+1:Nat):Int)=(n:Int)+1 by omega] at c1;clear hc1 hl hyt hh;go_wp2_with (fail);go_meet;case rel=>
    refine ⟨n+2,by omega,?_,C3.rd (GX.setCell (p:=⟨R,1,none⟩) (GX.refl R w3) (.inl rfl) (.int .i64 ((n:Int)+1+1))) (by have t:=C3.r.setAt (n+2);rwa [show ((n+2:Nat):Int)=(n:Int)+1+1 by omega] at t) hRw⟩;have:=HT.out.2.2.1;simp only[cond_true,List.drop_drop] at this;exact this.symm
 case rest=>
 obtain ⟨n1,hn1,hd1,C⟩:=hcut;have HK:=Lib.hid HT.out.2.2.2;have HT0:=Lib.hid HT.out.1;go_wp2_with (fail)
 go_loopw [6] (λv wr=>∃(first:Bool) (G:Bs) (n1 k:Nat),v= .bool first/\n1<=s.size/\(s.data.toList.drop n1).length<k/\CQ R w G s n1 d e g A code wr/\Hid (clsS k first G (s.data.toList.drop n1)=T)) (λ_ wr=>s.size+1-rdN R wr)
 case atStart=>exact ⟨true,noB,n1,K,rfl,hn1,by rw[hd1];exact HK.out,C,Lib.hid (by rw[hd1];exact HT0.out)⟩
 case round=>
  clear C HT HT0 HK hd1 hn1;obtain ⟨first,G,n1,k,rfl,hn1,hk,C,HC⟩:=hrel;obtain ⟨k,rfl⟩:∃j,k=j+1:=⟨k-1,by omega⟩
  have Hmn:=Lib.hid C.r.n;obtain ⟨r,hr⟩:∃r,r=s.data.toList.drop n1:=⟨_,rfl⟩
  rw[<-hr] at hk HC;have hrl:r.length=s.size-n1:=by rw[hr];simp
  have Hr:=Lib.hid hr;clear hr;go_upto_region 7 with (fail)
  go_cut [35] from 30 to 140 (λp wx=>p= .bool (first || !headIs 93 r)/\Gr wr wx)
  case first=>
   have QM:=Lib.hid (λ(W:World) (hW:RfW W R s n1 d e g A code)=>more_any hW hs 93);rw[<-Hr.out] at QM;cases first
   ·cases h93:headIs 93 r;all_goals
     rw[h93] at QM;have H93:=Lib.hid h93;clear h93;go_wp2_with (go_at_call 95;refine (QM.out _ C.r).mono ?_;rintro x w4 ⟨rfl,g4⟩);go_meet;case rel=>exact ⟨by rw[H93.out];rfl,g4⟩
   ·go_wp2_with (fail);go_meet;case rel=>exact ⟨rfl,Gr.refl _⟩
  case rest=>
  obtain ⟨rfl,gc⟩:=hcut;have Cc:=C.gr gc;clear C gc;cases hgo:(first || !headIs 93 r);case false=>
   have h93:headIs 93 r=true:=by
    cases e:headIs 93 r
    ·rw[e] at hgo;simp at hgo
    ·rfl
   have hTe:T=(some G,r.drop 1):=by
    rw[<-HC.out];unfold clsS;rw[hgo];rfl
   obtain ⟨y,t,hyt, -⟩:=headIs_cons h93;have hl1:n1+1<=s.size:=by
    have:=congrArg List.length hyt;simp at this;omega
   have hn14:(n1:Int)<4096:=by omega
   obtain ⟨cc1,hc1⟩:=id Cc.r;obtain ⟨c1,f1⟩:=And.intro hc1.c1 hc1.f1;have HTe:=Lib.hid hTe;have Hyt:=Lib.hid hyt;clear hc1 hTe hyt h93 hgo;go_upto_region 23 with (fail)
   have C2:=Cc.rd (GX.setCell (p:=⟨R,1,none⟩) (GX.refl R wc) (.inl rfl) (.int .i64 ((n1:Int)+1))) (by have t:=Cc.r.setAt (n1+1);rwa [show ((n1+1:Nat):Int)=(n1:Int)+1 by omega] at t) hRw;clear Cc c1 f1;generalize wc.setCell ⟨R,1,none⟩ (.int .i64 ((n1:Int)+1))=w9 at C2 ⊢;go_wp2_with (fail)
   go_loopw [12] (λi wr=>∃j:Nat,j<=256/\i= .int .i64 j/\CQ R w (λq=>bif decide (q<j) then (G q != nt) else G q) s (n1+1) d e g A code wr) (λi _=>256-(intOf i).toNat)
   case atStart=>exact ⟨0,by omega,rfl,C2.x,C2.b,C2.a.eq λi _=>by simp,C2.r⟩
   case round=>
    clear C2;obtain ⟨j,hj,rfl,C3⟩:=hrel;by_cases hlt:j<256
    ·have h3:(j:Int)<256:=by omega
     have hcell:=C3.a.cell hlt;rw[show (bif decide (j<j) then (G j != nt) else G j)=G j by simp] at hcell;have hf:=C3.a.free j;have HC3:=Lib.hid C3;have hst:∀v,(G j != nt)=v->∀q,q<256->(bif q==j then v else (bif decide (q<j) then (G q != nt) else G q))=(bif decide (q<j+1) then (G q != nt) else G q):=λv hv q _=>by
      by_cases hq:q=j
      ·subst hq;simp[hv]
      ·have e1:(q==j)=false:=by simpa using hq
       have e2:decide (q<j+1)=decide (q<j):=by rw[decide_eq_decide];omega
       simp only[e1,cond_false,e2]
     have Hst:=Lib.hid hst;clear hst C3;cases hb:G j;all_goals
      rw[hb] at hcell Hst;clear hb;cases nt;all_goals
       go_wp2_with (fail);go_roundw;case rel=>exact ⟨j+1,by omega,by go_num,HC3.out.cell hRw j _ hAw (Hst.out _ rfl)⟩
       case measure=>simp[intOf];omega
    ·have hj':j=256:=by omega
     subst hj';obtain ⟨cx,cb,ca,cr⟩:=C3;have ca':SetQ wr (w.heap.size+1) (bif nt then notB G else G):=ca.eq λi hi=>by simp[hi];cases nt<;>simp[notB]
     clear ca;go_wp2_with (first
      | (refine wpList_load_row rfl 215 (.tmp 4) rfl ((w.heap.size+1)) rfl _ (bsA (bif nt then notB G else G)) (0,0) _ ca' und_arr rfl (size_bsQ _) ?_)
      | (refine wpList_store_row rfl 215 (.tmp 2) (.tmp 159) rfl (w.heap.size) (bsA (bif nt then notB G else G)) rfl rfl _ _ cb (size_bsQ _) (by simp only[bsA_size]) (bsA_one _) ?_))
     refine bodyPost_ret (v:= .tuple #[.agg (bsA (bif nt then notB G else G)), .bool true]) (res_arr2 _ 2 3 (by kernel_rfl) _ _ w.heap.size _ _ rfl rfl (SetQ.row cb)) rfl ?_;rw[HTe.out];refine ⟨_,n1+1,rfl,cr.row' (by omega) (λe=>by have:=hAw _ e;omega),cx.setRow (.inr (Nat.le_refl _)) _,by omega,λF hF=>?_⟩;injection hF with hF;refine ⟨hF,?_,by omega⟩;have:=Hr.out;show _=r.drop 1;rw[this,List.drop_drop]
  case true=>
   have e2:=HC.out;unfold clsS at e2;rw[hgo] at e2;simp only[cond_true] at e2;have hgo':=Lib.hid hgo;clear hgo HC;have hn14:(n1:Int)<=4096:=by omega
   rcases hx:sideS r with ⟨_|⟨f0,a0,wd⟩,r1⟩
   ·rw[hx] at e2;simp only at e2;obtain ⟨n',c',f',hn',hn2,HI⟩:=item_none Cc.r hs hn1 (by rw[<-Hr.out];exact hx);have HE:=Lib.hid e2;have HI':=Lib.hid (λ(W:World) (hW:RfW W R s n1 d e g A code)=>HI hW);clear e2 hx HI;go_upto_region 11 with (first
     | (go_at_call 168;refine (HI'.out _ Cc.r).mono ?_;rintro x w5 ⟨rfl,h5,x5⟩;have C5:=Cc.rd x5 h5 hRw)
     | (refine wpList_store_row rfl 215 (.tmp 8) (.tmp 40) rfl w5.heap.size (bsA f') rfl rfl _ _ (SetQ.new w5 noB) (size_bsQ _) (by simp only[bsA_size]) (bsA_one _) ?_;have C6:=C5.gr (Gr.setRow (Gr.alloc (Gr.refl w5) (.cells (bsA noB) 215)) (g:=w5.heap.size) (Nat.le_refl _) (bsA f'))))
    obtain ⟨cx,cb,ca,cr⟩:=id C6;go_wp2_with (first
     | (refine wpList_load_row rfl 215 (.tmp 4) rfl ((w.heap.size+1)) rfl _ (bsA (G)) (0,0) _ ca und_arr rfl (size_bsQ _) ?_)
     | (refine wpList_store_row rfl 215 (.tmp 2) (.tmp 44) rfl (w.heap.size) (bsA (G)) rfl rfl _ _ cb (size_bsQ _) (by simp only[bsA_size]) (bsA_one _) ?_))
    refine bodyPost_ret (v:= .tuple #[.agg (bsA G), .bool false]) (res_arr2 _ 2 3 (by kernel_rfl) _ _ w.heap.size _ _ rfl rfl (SetQ.row cb)) rfl ?_;rw[<-HE.out];exact ⟨G,n',rfl,cr.row' (by omega) (λe=>by have:=hAw _ e;omega),cx.setRow (.inr (Nat.le_refl _)) _,hn2,λF hF=>by cases hF⟩
   ·rw[hx] at e2;simp only at e2;obtain ⟨n2,hd2,hlt2,hn2,ha256,hf0,hnm,HI⟩:=item_some Cc.r hs hn1 (by rw[<-Hr.out];exact hx);have HE:=Lib.hid e2;have HI':=Lib.hid (λ(W:World) (hW:RfW W R s n1 d e g A code)=>HI hW);have HF:=Lib.hid (And.intro hd2 (And.intro hf0 hnm));clear e2 hx HI hd2 hf0 hnm;obtain ⟨X,hX⟩:∃X:Bs,X=(bif wd then f0 else noB):=⟨_,rfl⟩
    obtain ⟨a,ha⟩:∃a:Nat,a=(bif wd then 0 else a0):=⟨_,rfl⟩
    rw[<-hX,<-ha] at HI';have Hxa:=Lib.hid (And.intro hX ha);have ha2:a<256:=by rw[ha];cases wd<;>simp<;>omega
    clear hX ha;go_upto_region 13 with (first
     | (go_at_call 168;refine (HI'.out _ Cc.r).mono ?_;rintro x w5 ⟨rfl,h5,x5⟩;have C5:=Cc.rd x5 h5 hRw;have zg:w.heap.size+1<w5.heap.size:=C5.a.lt;have hzg:w5.heap.size≠R:=(by omega))
     | (refine wpList_store_row rfl 215 (.tmp 8) (.tmp 40) rfl w5.heap.size (bsA X) rfl rfl _ _ (SetQ.new w5 noB) (size_bsQ _) (by simp only[bsA_size]) (bsA_one _) ?_;have C6:=C5.gr (Gr.setRow (Gr.alloc (Gr.refl w5) (.cells (bsA noB) 215)) (g:=w5.heap.size) (Nat.le_refl _) (bsA X));have hX6:SetQ ((w5.alloc (.cells (bsA noB) 215)).setRow w5.heap.size (bsA X)) w5.heap.size X:=SetQ.row (SetQ.new w5 noB)))
    clear C5 x5 h5 Cc HI';generalize (w5.alloc (.cells (bsA noB) 215)).setRow w5.heap.size (bsA X)=w6 at C6 hX6 ⊢;obtain ⟨gx,hgx⟩:∃gx,gx=w5.heap.size:=⟨_,rfl⟩
    rw[<-hgx] at zg hzg hX6 ⊢;clear hgx
    go_cut [88] from 30 to 140 (λp wx=>p= .bool (!wd&&rangesS r1)/\Gr w6 wx)
    case first=>
     have hzR:R<w6.heap.size:=C6.r.lt;obtain ⟨cc6,hc6⟩:=id C6.r;obtain ⟨c0,c1⟩:=And.intro hc6.c0 hc6.c1;clear hc6;have hr1l:r1.length=s.size-n2:=by rw[<-HF.out.1];simp
     have hn24:(n2:Int)<=4096:=by omega
     have hw1:IntKind.i64.wrap ((n2:Int)+1)=(n2:Int)+1:=IntWalk.i64_in _ (by omega);obtain ⟨hXe, -⟩:=Hxa.out;cases wd
     ·simp only[cond_false] at hXe;subst hXe;have HM0:=λ(W:World) (hW:Gr w6 W)=>more_any (C6.r.gr hW) hs 45;rw[HF.out.1] at HM0;have HM1:=Lib.hid HM0;clear HM0;cases h45:headIs 45 r1
      ·have HM:Hid (∀W,Gr w6 W->Calls Tryz.prog 95 #[.pointer (some ⟨R,0,none⟩), .int .u8 45] W λx w'=>x= .returned (.bool false)/\Gr W w'):=Lib.hid (λW hW=>by have t:=HM1.out W hW;rw[h45] at t;exact t);have H45:=Lib.hid (ranges_45 h45);clear h45;refine region_R (by kernel_rfl) (by kernel_rfl) ?_;refine r_val (v:= .agg (bsA (noB))) (by kernel_rfl) (λW hW=>?qh1) ?qr1;case qh1=>exact exec_load_row _ _ rfl gx rfl (SetQ.gr hX6 hW) und_arr rfl (size_bsQ _)
       simp only[Pu];refine rv ?_;refine rv ?_ (h:=λW hW=>by have hq:=eqn_none;go_light;go_simp<;>rfl);(iterate 2 refine rv ?_);refine rc (.bool false) (λW hW=>HM.out W hW) ?_;(iterate 2 refine rv ?_);(iterate 11 refine rs ?_);(iterate 2 refine rv ?_);(iterate 11 refine rs ?_);(iterate 2 refine rv ?_);(iterate 8 refine rs ?_);refine rv ?_;refine r_nil ?_;intro w7 hw7;go_wp2_with (fail);go_meet;case rel=>exact ⟨by rw[H45.out];rfl,hw7⟩
      ·have HM:Hid (∀W,Gr w6 W->Calls Tryz.prog 95 #[.pointer (some ⟨R,0,none⟩), .int .u8 45] W λx w'=>x= .returned (.bool true)/\Gr W w'):=Lib.hid (λW hW=>by have t:=HM1.out W hW;rw[h45] at t;exact t);obtain ⟨y,t1,rfl,hy45⟩:=headIs_cons h45;have Hy:=Lib.hid hy45;clear h45 hy45 HM1;match t1 with
       | []=>
        have hE:decide ((n2:Int)+1<(s.size:Int))=false:=by simp at hr1l ⊢;omega
        clear hr1l;refine region_R (by kernel_rfl) (by kernel_rfl) ?_;refine r_val (v:= .agg (bsA (noB))) (by kernel_rfl) (λW hW=>?qh14) ?qr14;case qh14=>exact exec_load_row _ _ rfl gx rfl (SetQ.gr hX6 hW) und_arr rfl (size_bsQ _)
        simp only[Pu];refine rv ?_;refine rv ?_ (h:=λW hW=>by have hq:=eqn_none;go_light;go_simp<;>rfl);(iterate 2 refine rv ?_);refine rc (.bool true) (λW hW=>HM.out W hW) ?_;(iterate 5 refine rv ?_);refine rv ?_ (h:=λW hW=>by have q1:=bc hW hzR c1;go_light;go_simp<;>rfl);(iterate 4 refine rv ?_);refine rv ?_ (h:=λW hW=>by have q0:=bc hW hzR c0;go_light;go_simp<;>rfl);(iterate 4 refine rv ?_);(iterate 11 refine rs ?_);(iterate 2 refine rv ?_);(iterate 8 refine rs ?_);refine rv ?_;refine r_nil ?_;intro w7 hw7;go_wp2_with (fail);go_meet;case rel=>exact ⟨rfl,hw7⟩
       | dd::t2=>
        have hlt3:n2+1<s.size:=by simp at hr1l;omega
        have hE:decide ((n2:Int)+1<(s.size:Int))=true:=by simp;omega
        have hE2:(n2:Int)+1<(s.size:Int):=by omega
        have hE3:(0:Int)<=(n2:Int)+1:=by omega
        have hE4:((n2:Int)+1).toNat=n2+1:=by omega
        have hdd:s.data.toList.drop (n2+1)=dd::t2:=by rw[<-List.drop_drop,HF.out.1];rfl
        have hdd2:s[n2+1]=dd:=by
         rw[List.drop_eq_getElem_cons (by simp;omega)] at hdd;injection hdd with h1 _
        have Hdd:=Lib.hid (And.intro hdd hdd2);by_cases h93:dd.toNat=93
        ·have hq93:((s[n2+1].toNat:Int) != 93)=false:=by rw[hdd2];simp[h93]
         have HR:=Lib.hid (show rangesS (y::dd::t2)=false by simp[rangesS,h93]);clear hdd hdd2 h93 hr1l;refine region_R (by kernel_rfl) (by kernel_rfl) ?_;refine r_val (v:= .agg (bsA (noB))) (by kernel_rfl) (λW hW=>?qh38) ?qr38;case qh38=>exact exec_load_row _ _ rfl gx rfl (SetQ.gr hX6 hW) und_arr rfl (size_bsQ _)
         simp only[Pu];refine rv ?_;refine rv ?_ (h:=λW hW=>by have hq:=eqn_none;go_light;go_simp<;>rfl);(iterate 2 refine rv ?_);refine rc (.bool true) (λW hW=>HM.out W hW) ?_;(iterate 5 refine rv ?_);refine rv ?_ (h:=λW hW=>by have q1:=bc hW hzR c1;go_light;go_simp<;>rfl);(iterate 4 refine rv ?_);refine rv ?_ (h:=λW hW=>by have q0:=bc hW hzR c0;go_light;go_simp<;>rfl);(iterate 7 refine rv ?_);refine rv ?_ (h:=λW hW=>by have q0:=bc hW hzR c0;go_light;go_simp<;>rfl);(iterate 3 refine rv ?_);refine rv ?_ (h:=λW hW=>by have q1:=bc hW hzR c1;go_light;go_simp<;>rfl);(iterate 5 refine rv ?_);(iterate 8 refine rs ?_);refine rv ?_;refine r_nil ?_;intro w7 hw7;go_wp2_with (fail);go_meet;case rel=>exact ⟨by rw[HR.out];rfl,hw7⟩
        ·have hq93:((s[n2+1].toNat:Int) != 93)=true:=by rw[hdd2];simp[bne,beq_eq_false_iff_ne.2 (show (dd.toNat:Int)≠93 by omega)]
         have HR:=Lib.hid (ranges_six Hy.out h93 t2);obtain ⟨V,hV⟩:∃V,V=sxB (dd::t2):=⟨_,rfl⟩
         rw[<-hV] at HR;have HV:Hid (∀W,Gr w6 W->Calls Tryz.prog 169 #[.pointer (some ⟨R,0,none⟩), .int .i64 ((n2:Int)+1)] W λx w'=>x= .returned (.bool V)/\Gr W w'):=Lib.hid (λW hW=>by
          have t:=sixat_any (C6.r.gr hW) hs (n2+1) (by omega);rw[hdd,<-hV,show ((n2+1:Nat):Int)=(n2:Int)+1 by omega] at t;exact t)
         clear hdd hdd2 h93 hr1l hV;cases V
         ·skip
          refine region_R (by kernel_rfl) (by kernel_rfl) ?_;refine r_val (v:= .agg (bsA (noB))) (by kernel_rfl) (λW hW=>?qh73) ?qr73;case qh73=>exact exec_load_row _ _ rfl gx rfl (SetQ.gr hX6 hW) und_arr rfl (size_bsQ _)
          simp only[Pu];refine rv ?_;refine rv ?_ (h:=λW hW=>by have hq:=eqn_none;go_light;go_simp<;>rfl);(iterate 2 refine rv ?_);refine rc (.bool true) (λW hW=>HM.out W hW) ?_;(iterate 5 refine rv ?_);refine rv ?_ (h:=λW hW=>by have q1:=bc hW hzR c1;go_light;go_simp<;>rfl);(iterate 4 refine rv ?_);refine rv ?_ (h:=λW hW=>by have q0:=bc hW hzR c0;go_light;go_simp<;>rfl);(iterate 7 refine rv ?_);refine rv ?_ (h:=λW hW=>by have q0:=bc hW hzR c0;go_light;go_simp<;>rfl);(iterate 3 refine rv ?_);refine rv ?_ (h:=λW hW=>by have q1:=bc hW hzR c1;go_light;go_simp<;>rfl);(iterate 9 refine rv ?_);refine rv ?_ (h:=λW hW=>by have q1:=bc hW hzR c1;go_light;go_simp<;>rfl);refine rv ?_;refine rc (.bool false) (λW hW=>HV.out W hW) ?_;(iterate 2 refine rv ?_);refine r_nil ?_;intro w7 hw7;go_wp2_with (fail);go_meet;case rel=>exact ⟨by rw[HR.out];rfl,hw7⟩
         ·skip
          refine region_R (by kernel_rfl) (by kernel_rfl) ?_;refine r_val (v:= .agg (bsA (noB))) (by kernel_rfl) (λW hW=>?qh116) ?qr116;case qh116=>exact exec_load_row _ _ rfl gx rfl (SetQ.gr hX6 hW) und_arr rfl (size_bsQ _)
          simp only[Pu];refine rv ?_;refine rv ?_ (h:=λW hW=>by have hq:=eqn_none;go_light;go_simp<;>rfl);(iterate 2 refine rv ?_);refine rc (.bool true) (λW hW=>HM.out W hW) ?_;(iterate 5 refine rv ?_);refine rv ?_ (h:=λW hW=>by have q1:=bc hW hzR c1;go_light;go_simp<;>rfl);(iterate 4 refine rv ?_);refine rv ?_ (h:=λW hW=>by have q0:=bc hW hzR c0;go_light;go_simp<;>rfl);(iterate 7 refine rv ?_);refine rv ?_ (h:=λW hW=>by have q0:=bc hW hzR c0;go_light;go_simp<;>rfl);(iterate 3 refine rv ?_);refine rv ?_ (h:=λW hW=>by have q1:=bc hW hzR c1;go_light;go_simp<;>rfl);(iterate 9 refine rv ?_);refine rv ?_ (h:=λW hW=>by have q1:=bc hW hzR c1;go_light;go_simp<;>rfl);refine rv ?_;refine rc (.bool true) (λW hW=>HV.out W hW) ?_;(iterate 2 refine rv ?_);refine r_nil ?_;intro w7 hw7;go_wp2_with (fail);go_meet;case rel=>exact ⟨by rw[HR.out];rfl,hw7⟩
     ·simp only[cond_true] at hXe;subst hXe;obtain ⟨cn,hnm⟩:=HF.out.2.2 rfl;have Hnm:=Lib.hid hnm;refine region_R (by kernel_rfl) (by kernel_rfl) ?_;refine r_val (v:= .agg (bsA (X))) (by kernel_rfl) (λW hW=>?qh159) ?qr159;case qh159=>exact exec_load_row _ _ rfl gx rfl (SetQ.gr hX6 hW) und_arr rfl (size_bsQ _)
      simp only[Pu];refine rv ?_;refine rv ?_ (h:=λW hW=>by have hq:=eqn_some Hnm.out;go_light;go_simp<;>rfl);refine rv ?_;(iterate 2 refine rs ?_);(iterate 2 refine rv ?_);(iterate 11 refine rs ?_);(iterate 2 refine rv ?_);(iterate 11 refine rs ?_);(iterate 2 refine rv ?_);(iterate 8 refine rs ?_);refine rv ?_;refine r_nil ?_;intro w7 hw7;go_wp2_with (fail);go_meet;case rel=>exact ⟨rfl,hw7⟩
    case rest=>
    obtain ⟨rfl,g7⟩:=hcut;have C7:=C6.gr g7;have hX7:=hX6.gr g7;clear C6 hX6 g7;have hr1l:r1.length=s.size-n2:=by rw[<-HF.out.1];simp
    have Hr1l:=Lib.hid hr1l;clear hr1l;go_upto_if 88 with (fail)
    go_cut [9,10] from 30 to 140 (λp9 p10 wx=>∃(n3 bv:Nat) (FF:Bs),p9= .bool true/\p10= .int .u8 bv/\bv<256/\n3<=s.size/\n1<n3/\CQ R w G s n3 d e g A code wx/\SetQ wx gx X/\Hid (clsS k false (orB G FF) (s.data.toList.drop n3)=T)/\Hid (∀i,i<256->FF i=(bif wd then f0 i else (Nat.ble a0 i&&Nat.ble i bv))))
    case first=>
     cases hrg:(!wd&&rangesS r1)
     ·have HE2:Hid (clsS k false (orB G f0) (s.data.toList.drop n2)=T):=Lib.hid (by rw[HF.out.1];have t:=HE.out;rw[hrg] at t;simpa only[cond_false] using t);have HF2:Hid (∀i,i<256->f0 i=(bif wd then f0 i else (Nat.ble a0 i&&Nat.ble i a))):=Lib.hid (λi hi=>by
       cases wd
       ·have h1:=Hxa.out.2;simp only[cond_false] at h1;rw[HF.out.2.1 rfl,h1];simp only[oneB,cond_false];rw[Bool.eq_iff_iff];simp;omega
       ·rfl)
      clear hrg;go_wp2_with (fail);go_meet;case rel=>exact ⟨n2,a,f0,rfl,rfl,ha2,hn2,hlt2,C7,hX7,HE2,HF2⟩
     ·have hwd:wd=false:=by cases wd with|false=>rfl|true=>simp at hrg
      subst hwd;have hrg2:rangesS r1=true:=by simpa using hrg
      obtain ⟨y,dd,t2,rfl⟩:=rangesS_two hrg2;have e3:=HE.out;rw[hrg] at e3;simp only[cond_true,List.drop_succ_cons,List.drop_zero] at e3;have hn23:n2+2<=s.size:=by have:=Hr1l.out;simp at this;omega
      have hdd:s.data.toList.drop (n2+1)=dd::t2:=by rw[<-List.drop_drop,HF.out.1];rfl
      have hn24:(n2:Int)<4096:=by omega
      have ha0:a=a0:=by have:=Hxa.out.2;simpa using this
      have Hrg:=Lib.hid hrg2;obtain ⟨cc7,hc7⟩:=id C7.r;obtain ⟨c1,f1⟩:=And.intro hc7.c1 hc7.f1;have Hdd:=Lib.hid (And.intro hdd ha0);have HE3:=Lib.hid e3;clear hc7 hrg hrg2 hdd ha0 e3 HE;go_upto_region 15 with (fail)
      have C8:=C7.rd (GX.setCell (p:=⟨R,1,none⟩) (GX.refl R wc) (.inl rfl) (.int .i64 ((n2:Int)+1))) (by have t:=C7.r.setAt (n2+1);rwa [show ((n2+1:Nat):Int)=(n2:Int)+1 by omega] at t) hRw;have hX8:=hX7.other (p:=⟨R,1,none⟩) (by show gx≠R;exact hzg) (.int .i64 ((n2:Int)+1));clear C7 hX7 c1 f1;generalize wc.setCell ⟨R,1,none⟩ (.int .i64 ((n2:Int)+1))=w8 at C8 hX8 ⊢;have hzn8:n2+1<=s.size:=by omega
      rcases hx2:sideS (dd::t2) with ⟨_|⟨f2,b0,wd2⟩,r2⟩
      ·have e3:=HE3.out;rw[hx2] at e3;simp only at e3;obtain ⟨n',c',f',hn',hn2',HI⟩:=item_none C8.r hs hzn8 (by rw[Hdd.out.1];exact hx2);have HI':=Lib.hid (λ(W:World) (hW:RfW W R s (n2+1) d e g A code)=>HI hW);have HE4:=Lib.hid e3;clear e3 hx2 HI HE3;go_upto_region 17 with (go_at_call 168;refine (HI'.out _ C8.r).mono ?_;rintro x w9 ⟨rfl,h9,x9⟩;have C9:=C8.rd x9 h9 hRw)
       obtain ⟨cx,cb,ca,cr⟩:=id C9;go_wp2_with (first
        | (refine wpList_load_row rfl 215 (.tmp 4) rfl ((w.heap.size+1)) rfl _ (bsA (G)) (0,0) _ ca und_arr rfl (size_bsQ _) ?_)
        | (refine wpList_store_row rfl 215 (.tmp 2) (.tmp 109) rfl (w.heap.size) (bsA (G)) rfl rfl _ _ cb (size_bsQ _) (by simp only[bsA_size]) (bsA_one _) ?_))
       refine bodyPost_ret (v:= .tuple #[.agg (bsA G), .bool false]) (res_arr2 _ 2 3 (by kernel_rfl) _ _ w.heap.size _ _ rfl rfl (SetQ.row cb)) rfl ?_;rw[<-HE4.out];exact ⟨G,n',rfl,cr.row' (by omega) (λe=>by have:=hAw _ e;omega),cx.setRow (.inr (Nat.le_refl _)) _,hn2',λF hF=>by cases hF⟩
      ·have e3:=HE3.out;rw[hx2] at e3;simp only at e3;obtain ⟨n3,hd3,hlt3,hn3,hb256,hf2,hnm2,HI⟩:=item_some C8.r hs hzn8 (by rw[Hdd.out.1];exact hx2);have hw2:wd2=false:=range_wd Hrg.out hx2;rw[hw2] at HI;simp only[cond_false] at HI;have HI':=Lib.hid (λ(W:World) (hW:RfW W R s (n2+1) d e g A code)=>HI hW);by_cases hba:b0<a0
       ·rw[blt_yes hba] at e3;simp only[cond_true] at e3;have hbI:(b0:Int)<(a:Int):=by have:=Hdd.out.2;omega
        have HE4:=Lib.hid e3;clear e3 hx2 HI HE3 hba hf2 hnm2 hd3;go_upto_region 17 with (go_at_call 168;refine (HI'.out _ C8.r).mono ?_;rintro x w9 ⟨rfl,h9,x9⟩;have C9:=C8.rd x9 h9 hRw)
        obtain ⟨cx,cb,ca,cr⟩:=id C9;go_wp2_with (first
         | (refine wpList_load_row rfl 215 (.tmp 4) rfl ((w.heap.size+1)) rfl _ (bsA (G)) (0,0) _ ca und_arr rfl (size_bsQ _) ?_)
         | (refine wpList_store_row rfl 215 (.tmp 2) (.tmp 109) rfl (w.heap.size) (bsA (G)) rfl rfl _ _ cb (size_bsQ _) (by simp only[bsA_size]) (bsA_one _) ?_))
        refine bodyPost_ret (v:= .tuple #[.agg (bsA G), .bool false]) (res_arr2 _ 2 3 (by kernel_rfl) _ _ w.heap.size _ _ rfl rfl (SetQ.row cb)) rfl ?_;rw[<-HE4.out];exact ⟨G,n3,rfl,cr.row' (by omega) (λe=>by have:=hAw _ e;omega),cx.setRow (.inr (Nat.le_refl _)) _,by omega,λF hF=>by cases hF⟩
       ·rw[blt_no hba] at e3;simp only[cond_false] at e3;have hbI:¬(b0:Int)<(a:Int):=by have:=Hdd.out.2;omega
        have HE4:Hid (clsS k false (orB G (orB f0 (runB a0 b0))) (s.data.toList.drop n3)=T):=Lib.hid (by rw[hd3];exact e3);have HF2:Hid (∀i,i<256->(orB f0 (runB a0 b0)) i=(bif false then f0 i else (Nat.ble a0 i&&Nat.ble i b0))):=Lib.hid (λi hi=>by
         rw[HF.out.2.1 rfl];simp only[oneB,orB,runB,cond_false];rw[Bool.eq_iff_iff];simp;omega)
        have hlt4:n1<n3:=by omega
        clear e3 hx2 HI HE3 hba hf2 hnm2 hd3;go_wp2_with (go_at_call 168;refine (HI'.out _ C8.r).mono ?_;rintro x w9 ⟨rfl,h9,x9⟩;have C9:=C8.rd x9 h9 hRw;have hX9:=hX8.gx x9 hzg);go_meet;case rel=>exact ⟨n3,b0,orB f0 (runB a0 b0),rfl,rfl,hb256,hn3,hlt4,C9,hX9,HE4,HF2⟩
    case rest=>
    obtain ⟨n3,bv,FF,rfl,rfl,hbv,hn3,hlt3,C,hXc,HE3,HFF⟩:=hcut;clear C7 hX7;have hXe:=Hxa.out.1;have HXe:=Lib.hid hXe;clear hXe;go_wp2_with (fail)
    go_loopw [11] (λi wr=>∃j:Nat,j<=256/\i= .int .i64 j/\CQ R w (λq=>bif decide (q<j) then (G q||FF q) else G q) s n3 d e g A code wr/\SetQ wr gx X) (λi _=>256-(intOf i).toNat)
    case atStart=>exact ⟨0,by omega,rfl,⟨C.x,C.b,C.a.eq λi _=>by simp,C.r⟩,hXc⟩
    case round=>
     clear C hXc;obtain ⟨j,hj,rfl,C,hXw⟩:=hrel;by_cases hlt:j<256
     ·have h3:(j:Int)<256:=by omega
      have hcell:=C.a.cell hlt;rw[show (bif decide (j<j) then (G j||FF j) else G j)=G j by simp] at hcell;have hf:=C.a.free j;have hxc:=hXw.cell hlt;have HC3:=Lib.hid C;have HXw:=Lib.hid hXw;have hst:∀v,(G j||FF j)=v->∀q,q<256->(bif q==j then v else (bif decide (q<j) then (G q||FF q) else G q))=(bif decide (q<j+1) then (G q||FF q) else G q):=λv hv q _=>by
       by_cases hq:q=j
       ·subst hq;simp[hv]
       ·have e1:(q==j)=false:=by simpa using hq
        have e2:decide (q<j+1)=decide (q<j):=by rw[decide_eq_decide];omega
        simp only[e1,cond_false,e2]
      have Hst:=Lib.hid hst;have hFj:=HFF.out j hlt;have HFj:=Lib.hid hFj;clear hst C hFj;have hne:gx≠w.heap.size+1:=by omega
      cases hb:G j;case true=>
       rw[hb] at hcell Hst;clear hb hXw hxc;go_wp2_with (fail);go_roundw;case rel=>exact ⟨j+1,by omega,by go_num,HC3.out.cell hRw j _ hAw (Hst.out _ (by simp)),HXw.out.other (p:=⟨w.heap.size+1,j,none⟩) hne _⟩
       case measure=>simp[intOf];omega
      case false=>
      rw[hb] at hcell Hst;clear hb;cases hxj:X j;case true=>
       have hFt:FF j=true:=by
        have h1:=HXe.out;rw[h1] at hxj;rw[HFj.out];cases wd
        ·simp[noB] at hxj
        ·simpa using hxj
       rw[hxj] at hxc;have HFt:=Lib.hid hFt;clear hxj hXw hFt;go_wp2_with (fail);go_roundw;case rel=>exact ⟨j+1,by omega,by go_num,HC3.out.cell hRw j _ hAw (Hst.out _ (by rw[HFt.out];rfl)),HXw.out.other (p:=⟨w.heap.size+1,j,none⟩) hne _⟩
       case measure=>simp[intOf];omega
      case false=>
      rw[hxj] at hxc;cases wd;case true=>
       obtain ⟨cn,hnm⟩:=HF.out.2.2 rfl;have hXf:X=f0:=HXe.out;have hq:=λW=>eqn_some hnm W;rw[<-hXf] at hq;have HFf:=Lib.hid (show FF j=false by rw[HFj.out,<-hXf];exact hxj);have HXf:=Lib.hid hXf;clear hxj hnm hXf;go_wp2_with (fail);refine wp_load_rowX rfl gx rfl hXw und_arr rfl (size_bsQ _) ?_;go_wp2_with (fail);go_roundw;case rel=>exact ⟨j+1,by omega,by go_num,HC3.out.cell hRw j _ hAw (Hst.out _ (by rw[HFf.out];rfl)),HXw.out.other (p:=⟨w.heap.size+1,j,none⟩) hne _⟩
       case measure=>simp[intOf];omega
      case false=>
       have hXf:X=noB:=HXe.out;have ha0:a=a0:=Hxa.out.2;have hq:∀W,(Op.equalIn 10000 215 (.agg (bsA X)) (.agg (bsA noB))).run Tryz.prog W= .ok true W:=λW=>by rw[hXf];exact eqn_none W
       have HXf:=Lib.hid hXf;have Ha0:=Lib.hid ha0;have hF2:FF j=(Nat.ble a0 j&&Nat.ble j bv):=HFj.out;have HF2:=Lib.hid hF2;clear hxj hXf ha0 hF2;by_cases h1:(a:Int)<=(j:Int)
       ·by_cases h2:(j:Int)<=(bv:Int)
        ·have HFf:=Lib.hid (show FF j=true by rw[HF2.out,<-Ha0.out];simp only[Bool.and_eq_true,Nat.ble_eq];omega);go_wp2_with (fail);refine wp_load_rowX rfl gx rfl hXw und_arr rfl (size_bsQ _) ?_;go_wp2_with (fail);go_roundw;case rel=>exact ⟨j+1,by omega,by go_num,HC3.out.cell hRw j _ hAw (Hst.out _ (by rw[HFf.out];rfl)),HXw.out.other (p:=⟨w.heap.size+1,j,none⟩) hne _⟩
         case measure=>simp[intOf];omega
        ·have HFf:=Lib.hid (show FF j=false by rw[HF2.out,<-Ha0.out,Bool.eq_false_iff];intro hh;simp only[Bool.and_eq_true,Nat.ble_eq] at hh;omega);go_wp2_with (fail);refine wp_load_rowX rfl gx rfl hXw und_arr rfl (size_bsQ _) ?_;go_wp2_with (fail);go_roundw;case rel=>exact ⟨j+1,by omega,by go_num,HC3.out.cell hRw j _ hAw (Hst.out _ (by rw[HFf.out];rfl)),HXw.out.other (p:=⟨w.heap.size+1,j,none⟩) hne _⟩
         case measure=>simp[intOf];omega
       ·have HFf:=Lib.hid (show FF j=false by rw[HF2.out,<-Ha0.out,Bool.eq_false_iff];intro hh;simp only[Bool.and_eq_true,Nat.ble_eq] at hh;omega);go_wp2_with (fail);refine wp_load_rowX rfl gx rfl hXw und_arr rfl (size_bsQ _) ?_;go_wp2_with (fail);go_roundw;case rel=>exact ⟨j+1,by omega,by go_num,HC3.out.cell hRw j _ hAw (Hst.out _ (by rw[HFf.out];rfl)),HXw.out.other (p:=⟨w.heap.size+1,j,none⟩) hne _⟩
        case measure=>simp[intOf];omega
     ·have hj':j=256:=by omega
      subst hj';have C10:CQ R w (orB G FF) s n3 d e g A code wr:=⟨C.x,C.b,C.a.eq λi hi=>by simp[hi,orB],C.r⟩
      have Hmn3:=Lib.hid C10.r.n;have hk3:(s.data.toList.drop n3).length<k:=by rw[List.length_drop];simp;omega
      clear C;go_wp2_with (fail);go_roundw;case rel=>exact ⟨false,orB G FF,n3,k,rfl,hn3,hk3,C10,HE3⟩
      case measure=>rw[Hmn.out,Hmn3.out];omega
end Go.Proofs.YtjapddfnpmlifaaGreatDoor
