import Derived.Test.YtoncapkmaeghfaaGreatRunWiHdr
import Derived.Test.YtoncapkmaeghfaaGreatRunFxBase
import Derived.Deep.Light
set_option linter.all false
set_option maxRecDepth 1000000
set_option maxHeartbeats 12800000
namespace Go.Proofs.YtoncapkmaeghfaaGreat
open Go.RowKit
theorem info_act:(Tryz.prog.info? 120).map (fun i=>(i.zero,i.size,i.bytes))=some (some (.agg #[.int .i64 0, .string ByteArray.empty, .int .i64 0, .slice none 0 0]),4,56):=by kernel_rfl
def XdS (X B:Nat) (v u k s a d:Value) (W:World):Prop:=W.cell? ⟨X,1,none⟩=some v∧W.cell? ⟨X,3,none⟩=some u∧W.cell? ⟨B,0,none⟩=some k∧W.cell? ⟨B,1,none⟩=some s∧W.cell? ⟨B,2,none⟩=some a∧W.cell? ⟨B,3,none⟩=some d
theorem XdS.kp {X B:Nat} {v u k s a d:Value} {W W':World} {S:Nat→Prop} (h:XdS X B v u k s a d W) (q:Kp S W W') (lX:X<W.heap.size) (lB:B<W.heap.size) (hX:¬S X) (hB:¬S B):XdS X B v u k s a d W':=
 ⟨(q.cell (a:=⟨X,1,none⟩) lX hX).trans h.1,(q.cell (a:=⟨X,3,none⟩) lX hX).trans h.2.1,(q.cell (a:=⟨B,0,none⟩) lB hB).trans h.2.2.1,(q.cell (a:=⟨B,1,none⟩) lB hB).trans h.2.2.2.1,(q.cell (a:=⟨B,2,none⟩) lB hB).trans h.2.2.2.2.1,(q.cell (a:=⟨B,3,none⟩) lB hB).trans h.2.2.2.2.2⟩
theorem XdS.gr {X B:Nat} {v u k s a d:Value} {W W':World} (h:XdS X B v u k s a d W) (q:Gr W W') (lX:X<W.heap.size) (lB:B<W.heap.size):XdS X B v u k s a d W':=h.kp (Kp.of_gr (fun _=>False) q) lX lB (fun h=>h) (fun h=>h)
theorem cell_off {w:World} {X i o:Nat} (v:Value) (h:o≠i):(w.setCell ⟨X,i,none⟩ v).cell? ⟨X,o,none⟩=w.cell? ⟨X,o,none⟩:=World.cell?_setCell_other w ⟨X,i,none⟩ ⟨X,o,none⟩ v (by first|(simp[h];done)|(simp;omega))
theorem RsM.now {Y:Nat→Prop} {X:Nat} {R:Option Nat} {room:Int} {n:Nat} {D:Option (List UInt8)} {w:World} (h:RsM Y w X R room n D) {v':Value} {D':Option (List UInt8)} (hf:FlR w v' (fun g=>g≠X∧R≠some g∧¬Y g) D'):RsM Y (w.setCell ⟨X,1,none⟩ v') X R room n D'∧Kp (fun k=>k=X) w (w.setCell ⟨X,1,none⟩ v'):=by
 have k:Kp (fun k=>k=X) w (w.setCell ⟨X,1,none⟩ v'):=(Kp.refl (fun k=>k=X) w).set (p:=⟨X,1,none⟩) (.inl rfl) v'
 obtain ⟨v,v1,v2⟩:=h.x1
 obtain ⟨y,hy⟩:=h.x2
 obtain ⟨u,xs,u1,u2,u3⟩:=h.x3
 refine ⟨⟨Nat.lt_of_lt_of_le h.lX k.size,(cell_off v' (by decide)).trans h.x0,⟨v',World.cell?_setCell_same' _ _ _ (by rw[v1];rfl),hf.kp k (fun g _ hq e=>hq.1 e)⟩,⟨y,(cell_off v' (by decide)).trans hy⟩,⟨u,xs,(cell_off v' (by decide)).trans u1,u2,k.own u3 (fun i hi e=>h.rX (by rw[←u2,hi,e]))⟩,?_,?_,?_,h.rX,h.nY,h.rY,fun i hi=>Nat.lt_of_lt_of_le (h.yl i hi) k.size⟩,k⟩
 ·
  rw[World.frozen?_setCell];exact h.z1
 ·
  rw[World.frozen?_setCell];exact h.z2
 ·
  rw[World.frozen?_setCell];exact h.z3
theorem RsM.noted {Y:Nat→Prop} {X:Nat} {R:Option Nat} {room:Int} {n m:Nat} {D:Option (List UInt8)} {w W5 w9:World} (h:RsM Y w X R room n D) {v':Value} {ys:List Value} (g5:Gr w W5) (hgr:W5.grownBy w9 R) (own9:w9.ownsRow 0 120 4 v' m ys) (hat:v'.ownBlock=R∨v'.ownBlock=some W5.heap.size) :
  RsM Y (w9.setCell ⟨X,3,none⟩ v') X v'.ownBlock room m D∧Kp (Xch X R) w (w9.setCell ⟨X,3,none⟩ v')∧(∀k,v'.ownBlock=some k→R=some k∨w.heap.size≤k):=by
 have k:Kp (Xch X R) w (w9.setCell ⟨X,3,none⟩ v'):=((Kp.of_gr (Xch X R) g5).grown hgr (fun i hi=> .inl (.inr hi))).set (p:=⟨X,3,none⟩) (.inl (.inl rfl)) _
 have hfr:∀i,v'.ownBlock=some i→R=some i∨w.heap.size≤i:=fun i hi=>by
  rcases hat with e|e
  ·
   exact .inl (e▸hi)
  ·
   rw[e] at hi;injection hi with hi;exact .inr (by rw[←hi];exact g5.size)
 have k9:Kp (fun k=>R=some k) w w9:=(Kp.of_gr (fun k=>R=some k) g5).grown hgr (fun i hi=> .inl hi)
 have kS:Kp (fun k=>k=X) w9 (w9.setCell ⟨X,3,none⟩ v'):=(Kp.refl (fun k=>k=X) _).set (p:=⟨X,3,none⟩) (.inl rfl) _
 have hX:¬R=some X:=h.rX
 have hoX:∀i,v'.ownBlock=some i→i≠X:=fun i hi e=>by
  subst e
  rcases hfr _ hi with e|e
  ·
   exact hX e
  ·
   have:=h.lX;omega
 obtain ⟨v,v1,v2⟩:=h.x1
 obtain ⟨y,hy⟩:=h.x2
 obtain ⟨u,xs,u1,u2,u3⟩:=h.x3
 refine ⟨⟨Nat.lt_of_lt_of_le h.lX k.size,(cell_off v' (by decide)).trans ((k9.cell (a:=⟨X,0,none⟩) h.lX hX).trans h.x0),⟨v,(cell_off v' (by decide)).trans ((k9.cell (a:=⟨X,1,none⟩) h.lX hX).trans v1),(v2.imp (Q':=fun g=>g≠X∧v'.ownBlock≠some g∧¬Y g∧¬Xch X R g) (fun g hg hq=>⟨hq.1,fun e=>by rcases hfr g e with e|e;exact hq.2.1 e;omega,hq.2.2,fun e=>by rcases e with e|e;exact hq.1 e;exact hq.2.1 e⟩)).kp k (fun g _ hq e=>hq.2.2.2 e) |>.imp (fun g _ hq=>⟨hq.1,hq.2.1,hq.2.2.1⟩)⟩,⟨y,(cell_off v' (by decide)).trans ((k9.cell (a:=⟨X,2,none⟩) h.lX hX).trans hy)⟩,⟨v',ys,World.cell?_setCell_same' _ _ _ (by rw[k9.cell (a:=⟨X,3,none⟩) h.lX hX,u1];rfl),rfl,kS.own own9 (fun i hi=>hoX i hi)⟩,?_,?_,?_,fun e=>hoX X e rfl,h.nY,fun i hi e=>?_,fun i hi=>Nat.lt_of_lt_of_le (h.yl i hi) k.size⟩,k,hfr⟩
 ·
  rw[World.frozen?_setCell];exact (k9.frozen (a:=⟨X,1,none⟩) h.lX hX).trans h.z1
 ·
  rw[World.frozen?_setCell];exact (k9.frozen (a:=⟨X,2,none⟩) h.lX hX).trans h.z2
 ·
  rw[World.frozen?_setCell];exact (k9.frozen (a:=⟨X,3,none⟩) h.lX hX).trans h.z3
 ·
  rcases hfr i hi with e2|e2
  ·
   exact h.rY i e2 e
  ·
   have:=h.yl i e;omega
theorem xdo_row {Y:Nat→Prop} {X:Nat} {R:Option Nat} {room:Int} {n:Nat} {D:Option (List UInt8)} {l:List UInt8} (kd at_:Int) (A:Option Addr) (m d:Nat) (hn:n≤1000000) (w:World) (h:RsM Y w X R room n D)
  (hdo:∀v,w.cell? ⟨X,1,none⟩=some v→∀W,Gr w W→Calls Tryz.prog 85 #[v, .agg #[.int .i64 kd, .string nmA, .int .i64 at_, .slice A m d]] W fun e w'=>∃v',e= .returned v'∧FlR w' v' (fun g=>g≠X∧R≠some g∧¬Y g) (some l)∧Gr W w') :
  Calls Tryz.prog 55 #[.pointer (some ⟨X,0,none⟩), .agg #[.int .i64 kd, .string nmA, .int .i64 at_, .slice A m d]] w fun e w'=>e= .returned (.int .i64 0)∧∃R',RsM Y w' X R' room (n+1) (some l)∧Kp (Xch X R) w w'∧(∀i,R'=some i→R=some i∨w.heap.size≤i)∧∃v xs0,v.ownBlock=R'∧xs0.length=n*4∧w'.ownsRow 0 120 4 v (n+1) (xs0++[.int .i64 kd, .string nmA, .int .i64 at_, .slice A m d]):=by
 obtain ⟨i0,hi0,hy0,hy1,hy2⟩:=info_parts info_act
 obtain ⟨V,hV⟩:∃V,V=w.alloc (.cells #[.int .i64 kd, .string nmA, .int .i64 at_, .slice A m d] 120):=⟨_,rfl⟩
 have gV:Gr w V:=by rw[hV];exact Gr.alloc (Gr.refl w) _
 have hz:w.heap.size<V.heap.size:=by rw[hV];simp
 have c0:V.cell? ⟨w.heap.size,0,none⟩=some (.int .i64 kd):=by rw[hV];go_simp
 have c1:V.cell? ⟨w.heap.size,1,none⟩=some (.string nmA):=by rw[hV];go_simp
 have c2:V.cell? ⟨w.heap.size,2,none⟩=some (.int .i64 at_):=by rw[hV];go_simp
 have c3:V.cell? ⟨w.heap.size,3,none⟩=some (.slice A m d):=by rw[hV];go_simp
 obtain ⟨v,v1,v2⟩:=h.x1
 obtain ⟨u,xs,u1,u2,u3⟩:=h.x3
 have hx1:=(Below.cell gV (p:=⟨X,1,none⟩) h.lX).trans v1
 have hx3:=(Below.cell gV (p:=⟨X,3,none⟩) h.lX).trans u1
 have lX:=Nat.lt_of_lt_of_le h.lX gV.size
 have HDO:=Lib.hid (hdo v v1)
 have HF:=Lib.hid h
 have HV:=Lib.hid hV
 have HG:=Lib.hid gV
 have HXW:=Lib.hid h.lX
 have HRL:=Lib.hid h.lR
 have hvs:∃Av nv cv,v= .slice Av nv cv:=by
  cases D with
  | none=>obtain ⟨c,e⟩:=v2;exact ⟨_,_,_,e⟩
  | some l=>obtain ⟨b,c,G,dd,e, -⟩:=v2;exact ⟨_,_,_,e⟩
 obtain ⟨Av,nv,cv,hv0⟩:=hvs
 subst hv0
 obtain ⟨Au,cu,hu0⟩:=own_form u3
 subst hu0
 clear hV gV h hdo v1 v2 u1 u2 u3
 go_enter Tryz.func55,Tryz.ntmps55
 go_upto_region 1 with (fail)
 rw[←HV.out]
 clear HV
 refine wp_region_Z 9 (XdS X w.heap.size (.slice Av nv cv) (.slice Au n cu) (.int .i64 kd) (.string nmA) (.int .i64 at_) (.slice A m d)) (by kernel_rfl) ?_
 have hS0:XdS X w.heap.size (.slice Av nv cv) (.slice Au n cu) (.int .i64 kd) (.string nmA) (.int .i64 at_) (.slice A m d) V.drew:=⟨hx1,hx3,c0,c1,c2,c3⟩
 have g0:Gr V V.drew:=Gr.drew (Gr.refl _)
 obtain ⟨W0,hW0⟩:∃W0,W0=V.drew:=⟨_,rfl⟩
 rw[←hW0] at hS0 g0 ⊢
 clear hW0
 refine zu 0 rfl hS0 (fun W hS=>by go_simp;rfl) ?_
 refine zu 1 rfl hS0 (fun W hS=>by go_simp;rfl) ?_
 refine zu 2 rfl hS0 (fun W hS=>by go_simp;rfl) ?_
 refine zu 3 rfl hS0 (fun W hS=>by go_simp;rfl) ?_
 refine zu 4 rfl hS0 (fun W hS=>by have s1:=hS.1;go_simp;rfl) ?_
 refine zu 5 rfl hS0 (fun W hS=>by have s3:=hS.2.2.1;have s4:=hS.2.2.2.1;have s5:=hS.2.2.2.2.1;have s6:=hS.2.2.2.2.2;go_simp;rfl) ?_
 refine wpAnyZ_ready (rs:=[6]) (by kernel_rfl) (by simp) ?_
 refine AllReadyZ.cons (i:=6) rfl (by kernel_rfl) ?zx7 AllReadyZ.nil
 intro K hK
 simp only[List.getElem_toArray,List.getElem_cons_succ,List.getElem_cons_zero]
 go_simp
 refine (HDO.out W0 (HG.out.trans g0)).mono ?_;rintro x W1 ⟨v',rfl,hfl,g1⟩
 have hS1:=hS0.gr g1 (Nat.lt_of_lt_of_le lX g0.size) (Nat.lt_of_lt_of_le hz g0.size)
 have hvs:∃A1 n1 c1,v'= .slice A1 n1 c1:=by obtain ⟨b,c,G,dd,e, -⟩:=hfl;exact ⟨_,_,_,e⟩
 have H1:=Lib.hid (And.intro hfl (And.intro g1 g0))
 clear hfl
 obtain ⟨A1,n1,c1',hv1⟩:=hvs
 subst hv1
 go_wp2_with fail
 refine hK.out _ _ (fun hnz=>?zs7) (fun _=>?zr7)
 case zs7=>exact hS1
 clear hK K
 try (simp only[Pu,List.getElem_toArray,List.getElem_cons_succ,List.getElem_cons_zero])
 refine zu 7 rfl hS1 (fun W hS=>by go_simp;rfl) ?_
 refine zu 8 rfl hS1 (fun W hS=>by go_simp;rfl) ?_
 have hN:=(HF.out.gr (HG.out.trans (g0.trans g1))).now H1.out.1
 have gW1:=Nat.lt_of_lt_of_le lX (g0.trans g1).size
 have fz:=(HF.out.gr (HG.out.trans (g0.trans g1))).z1
 have hv3:=(HF.out.gr (HG.out.trans (g0.trans g1))).x3
 have HN:=Lib.hid (And.intro hN (HG.out.trans (g0.trans g1)))
 clear hN g1 g0
 refine wpAnyZ_ready (rs:=[9]) (by kernel_rfl) (by simp) ?_
 refine AllReadyZ.cons (i:=9) rfl (by kernel_rfl) ?zx10 AllReadyZ.nil
 intro K hK
 simp only[List.getElem_toArray,List.getElem_cons_succ,List.getElem_cons_zero]
 have s1:=hS1.1
 go_simp
 refine hK.out _ _ (fun hnz=>?zs10) (fun _=>?zr10)
 case zs10=>exact absurd rfl hnz
 clear hK K
 try (simp only[Pu,List.getElem_toArray,List.getElem_cons_succ,List.getElem_cons_zero])
 refine wpAnyZ_done (by kernel_rfl) ?_ _
 obtain ⟨W2,hW2⟩:∃W2,W2=W1.setCell ⟨X,1,none⟩ (.slice A1 n1 c1'):=⟨_,rfl⟩
 rw[←hW2]
 rw[←hW2] at HN
 have kb:∀o,W2.cell? ⟨w.heap.size,o,none⟩=W1.cell? ⟨w.heap.size,o,none⟩:=fun o=>by rw[hW2];exact World.cell?_setCell_other _ ⟨X,1,none⟩ ⟨w.heap.size,o,none⟩ _ (by have:=HXW.out;first|(simp;omega)|(simp;done))
 have b0:=(kb 0).trans hS1.2.2.1
 have b1:=(kb 1).trans hS1.2.2.2.1
 have b2:=(kb 2).trans hS1.2.2.2.2.1
 have b3:=(kb 3).trans hS1.2.2.2.2.2
 have hz2:w.heap.size<W2.heap.size:=by rw[hW2];have:=H1.out.2.1.size;have:=H1.out.2.2.size;simp;omega
 clear hW2 kb hS1 hS0 s1 fz gW1 hv3 hx1 hx3 c0 c1 c2 c3
 go_upto_region 2 with (fail)
 obtain ⟨v2,xs,v3,v4,v5⟩:=HN.out.1.1.x3
 obtain ⟨y1,y2,y3⟩:=HN.out.1.1.x1
 obtain ⟨A0,cp0,hv⟩:=own_form v5
 subst hv
 have HV3:=Lib.hid (And.intro v4 v5)
 have lX2:=HN.out.1.1.lX
 refine wp_region_Z 10 (XdS X w.heap.size y1 (.slice A0 n cp0) (.int .i64 kd) (.string nmA) (.int .i64 at_) (.slice A m d)) (by kernel_rfl) ?_
 have hS0:XdS X w.heap.size y1 (.slice A0 n cp0) (.int .i64 kd) (.string nmA) (.int .i64 at_) (.slice A m d) W2.drew:=⟨y2,v3,b0,b1,b2,b3⟩
 have g0:Gr W2 W2.drew:=Gr.drew (Gr.refl _)
 obtain ⟨W3,hW3⟩:∃W3,W3=W2.drew:=⟨_,rfl⟩
 rw[←hW3] at hS0 g0 ⊢
 clear hW3 y2 y3 v3 v4 v5 b0 b1 b2 b3
 refine zu 0 rfl hS0 (fun W hS=>by go_simp;rfl) ?_
 refine zu 1 rfl hS0 (fun W hS=>by go_simp;rfl) ?_
 refine zu 2 rfl hS0 (fun W hS=>by go_simp;rfl) ?_
 refine zu 3 rfl hS0 (fun W hS=>by go_simp;rfl) ?_
 refine zu 4 rfl hS0 (fun W hS=>by have s2:=hS.2.1;go_simp;rfl) ?_
 refine zu 5 rfl hS0 (fun W hS=>by have s3:=hS.2.2.1;have s4:=hS.2.2.2.1;have s5:=hS.2.2.2.2.1;have s6:=hS.2.2.2.2.2;go_simp;rfl) ?_
 have hrx:Rd (W3.alloc (.cells #[.int .i64 kd, .string nmA, .int .i64 at_, .slice A m d] 120)) 4 (some ⟨W3.heap.size,0,none⟩) 1 [.int .i64 kd, .string nmA, .int .i64 at_, .slice A m d]:=Rd.newU (W:=W3) rfl 120 [.int .i64 kd, .string nmA, .int .i64 at_, .slice A m d] rfl
 have g5:Gr W3 (W3.alloc (.cells #[.int .i64 kd, .string nmA, .int .i64 at_, .slice A m d] 120)):=Gr.alloc (Gr.refl _) _
 have lX3:=Nat.lt_of_lt_of_le lX2 g0.size
 have lB3:=Nat.lt_of_lt_of_le hz2 g0.size
 refine wpAnyZ_ready (rs:=[6]) (by kernel_rfl) (by simp) ?_
 refine AllReadyZ.cons (i:=6) rfl (by kernel_rfl) ?zx17 AllReadyZ.nil
 intro K hK
 simp only[List.getElem_toArray,List.getElem_cons_succ,List.getElem_cons_zero]
 go_simp
 refine hK.out _ _ (fun hnz=>?zs17) (fun _=>?zr17)
 case zs17=>exact hS0.gr g5 lX3 lB3
 clear hK K
 try (simp only[Pu,List.getElem_toArray,List.getElem_cons_succ,List.getElem_cons_zero])
 obtain ⟨W5,hW5⟩:∃W5,W5=W3.alloc (.cells #[.int .i64 kd, .string nmA, .int .i64 at_, .slice A m d] 120):=⟨_,rfl⟩
 rw[←hW5] at hrx g5 ⊢
 clear hW5
 have hS5:=hS0.gr g5 lX3 lB3
 have o5:=own_grU (own_grU HV3.out.2 g0) g5
 refine wpAnyZ_ready (rs:=[7]) (by kernel_rfl) (by simp) ?_
 refine AllReadyZ.cons (i:=7) rfl (by kernel_rfl) ?zx18 AllReadyZ.nil
 intro K hK
 simp only[List.getElem_toArray,List.getElem_cons_succ,List.getElem_cons_zero]
 refine wp_append_rd0 (.tmp 18) (.tmp 20) 81 rfl 0 120 i0 _ 4 56 Tryz.underlying81 hi0 hy0 hy1 hy2 rfl (by decide) _ n _ rfl o5 (some ⟨W3.heap.size,0,none⟩) 1 _ [.int .i64 kd, .string nmA, .int .i64 at_, .slice A m d] rfl hrx (by intro u hu;simp at hu;rcases hu with rfl|rfl|rfl|rfl<;>rfl) (by unfold maxLen;omega) (by omega) (by omega) ?_
 intro v' w9 own9 hgr9 hob9
 have hnt:=HN.out.1.1.noted (g0.trans g5) (by rw[←HV3.out.1];exact hgr9) own9 (by rw[←HV3.out.1];exact hob9)
 have hS9:=hS5.kp ((Kp.refl (fun q=>(Value.slice A0 n cp0).ownBlock=some q) _).grown hgr9 (fun q hq=> .inl hq)) (Nat.lt_of_lt_of_le lX3 g5.size) (Nat.lt_of_lt_of_le lB3 g5.size) (fun e=>HN.out.1.1.rX (by rw[←HV3.out.1];exact e)) (fun e=>by have:=HRL.out _ (by rw[←HV3.out.1];exact e);omega)
 have z9:w9.frozen? ⟨X,3,none⟩=false:=by
  have k9:Kp (fun q=>(Value.slice A0 n cp0).ownBlock=some q) W2 w9:=(Kp.of_gr _ (g0.trans g5)).grown hgr9 (fun q hq=> .inl hq)
  exact (k9.frozen (a:=⟨X,3,none⟩) lX2 (fun e=>HN.out.1.1.rX (by rw[←HV3.out.1];exact e))).trans HN.out.1.1.z3
 have HO9:=Lib.hid (ownsRow_setCell_other own9 (a:=⟨X,3,none⟩) hnt.1.rX v')
 have lX9:X<w9.heap.size:=Nat.lt_of_lt_of_le (Nat.lt_of_lt_of_le lX3 g5.size) hgr9.size
 obtain ⟨A9,c9,hv9⟩:=own_form own9
 subst hv9
 have HT:=Lib.hid hnt
 clear hnt own9 hgr9 hob9 o5 hrx hS5 hS0 g5
 refine hK.out _ _ (fun hnz=>?zs18) (fun _=>?zr18)
 case zs18=>exact hS9
 clear hK K
 try (simp only[Pu,List.getElem_toArray,List.getElem_cons_succ,List.getElem_cons_zero])
 refine zu 8 rfl hS9 (fun W hS=>by go_simp;rfl) ?_
 refine zu 9 rfl hS9 (fun W hS=>by go_simp;rfl) ?_
 refine wpAnyZ_ready (rs:=[10]) (by kernel_rfl) (by simp) ?_
 refine AllReadyZ.cons (i:=10) rfl (by kernel_rfl) ?zx21 AllReadyZ.nil
 intro K hK
 simp only[List.getElem_toArray,List.getElem_cons_succ,List.getElem_cons_zero]
 have s2:=hS9.2.1
 go_simp
 refine hK.out _ _ (fun hnz=>?zs21) (fun _=>?zr21)
 case zs21=>exact absurd rfl hnz
 clear hK K
 try (simp only[Pu,List.getElem_toArray,List.getElem_cons_succ,List.getElem_cons_zero])
 refine wpAnyZ_done (by kernel_rfl) ?_ _
 go_wp2
 go_ret
 have hxl:=HV3.out.2.1
 refine ⟨rfl,_,HT.out.1,?_,fun i hi=>?_,_,xs,rfl,hxl,HO9.out⟩
 ·
  exact (((Kp.of_gr (Xch X R) HN.out.2).trans HN.out.1.2 (fun i _ e=> .inl e)).trans HT.out.2.1 (fun i _ e=>e))
 ·
  rcases HT.out.2.2 i hi with e|e
  ·
   exact .inl e
  ·
   exact .inr (Nat.le_trans (Nat.le_trans HN.out.2.size HN.out.1.2.size) e)
theorem xdo_any {Y:Nat→Prop} {X:Nat} {R:Option Nat} {room:Int} {n:Nat} {D:Option (List UInt8)} {l:List UInt8} (kd at_:Int) (A:Option Addr) (m d:Nat) (hn:n≤1000000) (w:World) (h:RsM Y w X R room n D)
  (hdo:∀v,w.cell? ⟨X,1,none⟩=some v→∀W,Gr w W→Calls Tryz.prog 85 #[v, .agg #[.int .i64 kd, .string nmA, .int .i64 at_, .slice A m d]] W fun e w'=>∃v',e= .returned v'∧FlR w' v' (fun g=>g≠X∧R≠some g∧¬Y g) (some l)∧Gr W w') :
  Calls Tryz.prog 55 #[.pointer (some ⟨X,0,none⟩), .agg #[.int .i64 kd, .string nmA, .int .i64 at_, .slice A m d]] w fun e w'=>e= .returned (.int .i64 0)∧∃R',RsM Y w' X R' room (n+1) (some l)∧Kp (Xch X R) w w'∧∀i,R'=some i→R=some i∨w.heap.size≤i:=
 (xdo_row kd at_ A m d hn w h hdo).mono fun e w' q=>by
  obtain ⟨e1,R',q1,q2,q3, -⟩:=q
  exact ⟨e1,R',q1,q2,q3⟩
theorem xcreate_row {Y:Nat→Prop} {X:Nat} {R:Option Nat} {room:Int} {n:Nat} (pb po pn pc:Nat) (ls:List (List UInt8)) (hpn:ls.length=pn) (hpn9:pn≤1000) (hs:(ls.flatten.length:Int)≤1073741824) (hrm:(ls.flatten.length:Int)≤room) (hrm2:room≤1073741824) (hn:n≤1000000) (w:World) (h:RsM Y w X R room n none) (hc:∀k (h:k<ls.length),∃A d,w.cell? ⟨pb,po+k,none⟩=some (.slice A ls[k].length d)∧Rb w A ls[k]) (hb:0<pn→pb<w.heap.size) :
  Calls Tryz.prog 20 #[.pointer (some ⟨X,0,none⟩), .string nmA, .slice (some ⟨pb,po,none⟩) pn pc] w fun e w'=>e= .returned (.int .i64 0)∧∃R',RsM Y w' X R' room (n+1) (some ls.flatten)∧Kp (Xch X R) w w'∧(∀i,R'=some i→R=some i∨w.heap.size≤i)∧∃v xs0 u,v.ownBlock=R'∧xs0.length=n*4∧w'.ownsRow 0 120 4 v (n+1) (xs0++(.int .i64 1::u)):=by
 obtain ⟨v,v1,c0,rfl⟩:=h.x1
 have lX:=h.lX
 have x0:=h.x0
 have hro:=fun W (g:Gr w W)=>xrows_any pb po pn pc ls hpn hpn9 hs W (fun k h=>by obtain ⟨A,d,e,hr⟩:=hc k h;exact ⟨A,d,(Below.cell g (p:=⟨pb,po+k,none⟩) (hb (by omega))).trans e,hr.gr g⟩) (fun h=>Nat.lt_of_lt_of_le (hb h) g.size)
 have HRO:=Lib.hid hro
 obtain ⟨L,hL⟩:∃L,L=ls.flatten:=⟨_,rfl⟩
 rw[←hL] at HRO hs hrm ⊢
 clear hro hc hb hL
 have HF:=Lib.hid h
 have HUS:Hid (∀W,Gr w W→Calls Tryz.prog 54 #[.pointer (some ⟨X,0,none⟩)] W fun e w'=>e= .returned (.int .i64 0)∧Gr W w'):=Lib.hid fun W g=>(xused_none W (HF.out.gr g)).mono (fun e w' h=>⟨h.1,by rw[←h.2];exact Gr.refl _⟩)
 have q1:¬room-0<(L.length:Int):=by omega
 have q2:IntKind.i64.wrap (room-0)=room-0:=IntWalk.i64_in _ (by omega)
 have q4:IntKind.i64.wrap room=room:=IntWalk.i64_in _ (by omega)
 have q5:¬room<(L.length:Int):=by omega
 have q3:decide (room<(L.length:Int))=false:=decide_eq_false q5
 clear h
 go_enter Tryz.func20,Tryz.ntmps20
 go_upto_region 6 with (first|(go_at_call 51;refine (HRO.out _ (Gr.refl _)).mono ?_;rintro e w1 ⟨A1,d1,rfl,hd1,own1,g1⟩;have H1:=Lib.hid (And.intro hd1 (And.intro own1 g1));have y1:=(Below.cell g1 (p:=⟨X,1,none⟩) lX).trans v1;have lX1:=Nat.lt_of_lt_of_le lX g1.size;have y0:=(Below.cell g1 (p:=⟨X,0,none⟩) lX).trans x0;clear hd1 own1 g1)|(go_at_call 52;refine (xis_any nmA _).mono ?_;rintro e w3 ⟨rfl,rfl⟩;rw[nmA_ok])|(go_at_call 53;refine (xfind_none _ _).mono ?_;rintro e w2 ⟨rfl,rfl⟩))
 refine region_R (by kernel_rfl) (by kernel_rfl) ?_
 iterate 5 (refine rv ?_;simp only[Pu])
 refine r_val (v:=?qv6) (by kernel_rfl) (fun W hW=>?qh6) ?qr6
 case qh6=>have e0:=(Below.cell hW (p:=⟨X,0,none⟩) lX1).trans y0;go_light;go_simp;rfl
 simp only[Pu]
 refine rv ?_;simp only[Pu]
 refine r_call (v:= .int .i64 0) (f:=?qf8) (args:=?qa8) (by kernel_rfl) (fun W hW=>?qh8) (fun W hW=>?qc8) ?qr8
 case qh8=>go_light;go_simp;constructor<;>rfl
 case qc8=>exact (HUS.out W (H1.out.2.2.trans hW)).mono (fun e w' h=>⟨h.1,Gr.trans hW h.2⟩)
 simp only[Pu]
 iterate 3 (refine rv ?_;simp only[Pu])
 refine r_nil ?_
 intro w8 hw8
 have HG8:=Lib.hid (H1.out.2.2.trans hw8)
 have own8:=own_grU H1.out.2.1 hw8
 have hA8:∀ad,A1=some ad→ad.block<w8.heap.size∧w.heap.size≤ad.block:=fun ad e=>by
  subst e
  have:=own8.lt ad.block rfl
  exact ⟨this.2,this.1⟩
 have hdo:=fun W (gW:Gr w W) (g8:Gr w8 W)=>xdo_row (l:=L) 1 0 A1 L.length d1 hn W (HF.out.gr gW) (fun v hv W2 g2=>by
  have ev:=(Below.cell gW (p:=⟨X,1,none⟩) lX).trans v1
  rw[ev] at hv
  injection hv with hv
  subst hv
  refine (xdoes_new A1 d1 0 L H1.out.1 c0 W2 ((Rb.own own8).gr (g8.trans g2)) (fun ad e=>Nat.lt_of_lt_of_le (hA8 ad e).1 (g8.trans g2).size)).mono ?_
  rintro e w' ⟨v',rfl,hf,hg⟩
  refine ⟨v',rfl,hf.imp (fun k hk hq=>?_),hg⟩
  have hk2:w.heap.size≤k:=by
   rcases hq with hq|⟨ad,e,hq⟩
   ·
    exact Nat.le_trans (gW.trans g2).size hq
   ·
    rw[←hq];exact (hA8 ad e).2
  exact ⟨fun e=>by have:=HF.out.lX;omega,fun e=>by have:=HF.out.lR k e;omega,fun e=>by have:=HF.out.yl k e;omega⟩)
 have HDO:Hid (∀W,W=w8→Calls Tryz.prog 55 #[.pointer (some ⟨X,0,none⟩), .agg #[.int .i64 1, .string nmA, .int .i64 0, .slice A1 L.length d1]] W fun e w'=>e= .returned (.int .i64 0)∧∃R',RsM Y w' X R' room (n+1) (some L)∧Kp (Xch X R) W w'∧(∀i,R'=some i→R=some i∨W.heap.size≤i)∧∃v xs0 u,v.ownBlock=R'∧xs0.length=n*4∧w'.ownsRow 0 120 4 v (n+1) (xs0++(.int .i64 1::u))):=Lib.hid fun W e=>by subst e;exact (hdo _ HG8.out (Gr.refl _)).mono fun e w' q=>(by obtain ⟨e1,R',q1,q2,q3,v,xs0,q4,q5,q6⟩:=q;exact ⟨e1,R',q1,q2,q3,v,xs0,_,q4,q5,q6⟩)
 clear hdo hA8 own8 hw8 y0 y1
 go_wp2_with (go_at_call 55;refine (HDO.out _ rfl).mono ?_;rintro e w9 ⟨rfl,hR⟩;have H9:=Lib.hid hR;clear hR)
 go_ret
 obtain ⟨R',h1,h2,h3,h4⟩:=H9.out
 exact ⟨rfl,R',h1,(Kp.of_gr (Xch X R) HG8.out).trans h2 (fun i _ e=>e),fun i hi=>(h3 i hi).elim .inl (fun e=> .inr (Nat.le_trans HG8.out.size e)),h4⟩
theorem xcreate_new {Y:Nat→Prop} {X:Nat} {R:Option Nat} {room:Int} {n:Nat} (pb po pn pc:Nat) (ls:List (List UInt8)) (hpn:ls.length=pn) (hpn9:pn≤1000) (hs:(ls.flatten.length:Int)≤1073741824) (hrm:(ls.flatten.length:Int)≤room) (hrm2:room≤1073741824) (hn:n≤1000000) (w:World) (h:RsM Y w X R room n none) (hc:∀k (h:k<ls.length),∃A d,w.cell? ⟨pb,po+k,none⟩=some (.slice A ls[k].length d)∧Rb w A ls[k]) (hb:0<pn→pb<w.heap.size) :
  Calls Tryz.prog 20 #[.pointer (some ⟨X,0,none⟩), .string nmA, .slice (some ⟨pb,po,none⟩) pn pc] w fun e w'=>e= .returned (.int .i64 0)∧∃R',RsM Y w' X R' room (n+1) (some ls.flatten)∧Kp (Xch X R) w w'∧∀i,R'=some i→R=some i∨w.heap.size≤i:=
 (xcreate_row pb po pn pc ls hpn hpn9 hs hrm hrm2 hn w h hc hb).mono fun e w' q=>by
  obtain ⟨e1,R',q1,q2,q3, -⟩:=q
  exact ⟨e1,R',q1,q2,q3⟩
theorem xwrite_any {Y:Nat→Prop} {X:Nat} {R:Option Nat} {room:Int} {n:Nat} {l:List UInt8} (hl:(l.length:Int)≤1073741824) (o:Nat) (pb po pn pc:Nat) (ls:List (List UInt8)) (hpn:ls.length=pn) (hpn9:pn≤1000) (hs:(ls.flatten.length:Int)≤1073741824) (hol:o+ls.flatten.length≤l.length) (hn:n≤1000000) (w:World) (h:RsM Y w X R room n (some l)) (hc:∀k (h:k<ls.length),∃A d,w.cell? ⟨pb,po+k,none⟩=some (.slice A ls[k].length d)∧Rb w A ls[k]) (hb:0<pn→pb<w.heap.size) :
  Calls Tryz.prog 101 #[.pointer (some ⟨X,0,none⟩), .string nmA, .int .i64 o, .slice (some ⟨pb,po,none⟩) pn pc] w fun e w'=>e= .returned (.int .i64 0)∧∃R',RsM Y w' X R' room (n+1) (some (putB l o ls.flatten))∧Kp (Xch X R) w w'∧∀i,R'=some i→R=some i∨w.heap.size≤i:=by
 have lX:=h.lX
 obtain ⟨v,v1,v2⟩:=h.x1
 obtain ⟨b,c,G,d,rfl,hc1,hbb,hqb,h0,h1,hd,hr,hG⟩:=v2
 have hro:=fun W (g:Gr w W)=>xrows_any pb po pn pc ls hpn hpn9 hs W (fun k h=>by obtain ⟨A,d,e,hr⟩:=hc k h;exact ⟨A,d,(Below.cell g (p:=⟨pb,po+k,none⟩) (hb (by omega))).trans e,hr.gr g⟩) (fun h=>Nat.lt_of_lt_of_le (hb h) g.size)
 have HRO:=Lib.hid hro
 obtain ⟨L,hL⟩:∃L,L=ls.flatten:=⟨_,rfl⟩
 rw[←hL] at HRO hs hol ⊢
 clear hro hc hb hL
 have HF:=Lib.hid h
 have HR:=Lib.hid (And.intro hr hG)
 have q1:¬(o:Int)<0:=by omega
 have q2:¬(l.length:Int)<(o:Int):=by omega
 have q3:IntKind.i64.wrap ((l.length:Int)-(o:Int))=(l.length:Int)-(o:Int):=IntWalk.i64_in _ (by omega)
 have q4:¬(l.length:Int)-(o:Int)<(L.length:Int):=by omega
 have q5:o≤l.length:=by omega
 clear h hr hG hqb
 go_enter Tryz.func101,Tryz.ntmps101
 go_upto_region 9 with (first|(go_at_call 51;refine (HRO.out _ (Gr.refl _)).mono ?_;rintro e w1 ⟨A1,d1,rfl,hd1,own1,g1⟩;have H1:=Lib.hid (And.intro hd1 (And.intro own1 g1));have y1:=(Below.cell g1 (p:=⟨X,1,none⟩) lX).trans v1;have lX1:=Nat.lt_of_lt_of_le lX g1.size;have y2:=(Below.cell g1 (p:=⟨b,0,none⟩) hbb).trans h0;have y4:=(Below.cell g1 (p:=⟨b,1,none⟩) hbb).trans h1;have y3:=Nat.lt_of_lt_of_le hbb g1.size;clear hd1 own1 g1)|(go_at_call 52;refine (xis_any nmA _).mono ?_;rintro e w3 ⟨rfl,rfl⟩;rw[nmA_ok])|(go_at_call 53;refine (xfind_some b c _ y3 y2).mono ?_;rintro e w2 ⟨rfl,rfl⟩))
 have HG8:=Lib.hid H1.out.2.2
 have hdo:=xdo_any (l:=putB l o L) 2 o A1 L.length d1 hn w1 (HF.out.gr HG8.out) (fun v hv W2 g2=>by
  rw[y1] at hv
  injection hv with hv
  subst hv
  have hbw:=Nat.lt_of_lt_of_le y3 g2.size
  refine (xdoes_put b c G d l A1 d1 o L hl hol W2 hbw ((Below.cell g2 (p:=⟨b,0,none⟩) y3).trans y2) ((Below.cell g2 (p:=⟨b,1,none⟩) y3).trans y4) ((HR.out.1.gr HG8.out).gr g2) ((Rb.own H1.out.2.1).gr g2)).mono ?_
  rintro e w' ⟨v',rfl,hf,hg⟩
  refine ⟨v',rfl,hf.imp (fun k hk hq=>?_),hg⟩
  have hk2:w.heap.size≤k:=Nat.le_trans (HG8.out.trans g2).size hq
  exact ⟨fun e=>by have:=HF.out.lX;omega,fun e=>by have:=HF.out.lR k e;omega,fun e=>by have:=HF.out.yl k e;omega⟩)
 have HDO:=Lib.hid hdo
 clear hdo y1 y2 y3 y4
 go_wp2_with (go_at_call 55;refine HDO.out.mono ?_;rintro e w9 ⟨rfl,hR⟩;have H9:=Lib.hid hR;clear hR)
 go_ret
 obtain ⟨R',h1,h2,h3⟩:=H9.out
 exact ⟨rfl,R',h1,(Kp.of_gr (Xch X R) HG8.out).trans h2 (fun i _ e=>e),fun i hi=>(h3 i hi).elim .inl (fun e=> .inr (Nat.le_trans HG8.out.size e))⟩
theorem rside_any (x y:Nat×Nat) (hx:oneOk x=true) (hy:oneOk y=true) (w:World):Calls Tryz.prog 29 #[.agg #[.int .i64 x.1, .int .i64 x.2], .agg #[.int .i64 y.1, .int .i64 y.2]] w fun e w'=>e= .returned (.bool (fitsS x y))∧Gr w w':=by
 obtain ⟨x1,x2⟩:=x
 obtain ⟨y1,y2⟩:=y
 obtain ⟨hx1,hx2,hx3,hx4⟩:=oneOk_iff.1 hx
 obtain ⟨hy1,hy2,hy3,hy4⟩:=oneOk_iff.1 hy
 simp only at hx1 hx2 hx3 hx4 hy1 hy2 hy3 hy4 ⊢
 obtain ⟨F,hF⟩:∃F,F=fitsS (x1,x2) (y1,y2):=⟨_,rfl⟩
 rw[←hF]
 have hFF:=fits_int (x1:Int) x2 y1 y2 (by omega) (by omega) (by omega) (by omega)
 have hm1:=prod_small (x1:Int) x2 (by omega) (by omega) (by omega) (by omega)
 have hm2:=prod_small (y1:Int) y2 (by omega) (by omega) (by omega) (by omega)
 have hfi:fitsS (x1,x2) (y1,y2)=(decide ((x1:Int)<y1)&&(((y1:Int)%x1)==0)&&decide ((x1:Int)*x2<(y1:Int)*y2)&&decide ((y1:Int)/x1≤x2)):=fits_eq _ _ _ _
 rw[hfi] at hF
 have HF:=Lib.hid hF
 obtain ⟨X1,hX1⟩:∃X:Int,X=x1:=⟨_,rfl⟩
 obtain ⟨X2,hX2⟩:∃X:Int,X=x2:=⟨_,rfl⟩
 obtain ⟨Y1,hY1⟩:∃X:Int,X=y1:=⟨_,rfl⟩
 obtain ⟨Y2,hY2⟩:∃X:Int,X=y2:=⟨_,rfl⟩
 have a1:1≤X1∧X1≤16777216:=by omega
 have a2:1≤X2∧X2≤16777216:=by omega
 have a3:1≤Y1∧Y1≤16777216:=by omega
 have a4:1≤Y2∧Y2≤16777216:=by omega
 simp only[←hX1,←hX2,←hY1,←hY2] at HF hFF hm1 hm2 ⊢
 clear hX1 hX2 hY1 hY2 hF hfi hx hy hx1 hx2 hx3 hx4 hy1 hy2 hy3 hy4
 obtain ⟨V,hV⟩:∃V,V=(w.alloc (.cells #[.int .i64 X1, .int .i64 X2] 69)).alloc (.cells #[.int .i64 Y1, .int .i64 Y2] 69):=⟨_,rfl⟩
 have gV:Gr w V:=by rw[hV];exact Gr.alloc (Gr.alloc (Gr.refl w) _) _
 have hzx:w.heap.size<V.heap.size:=by rw[hV];simp;omega
 have hzy:w.heap.size+1<V.heap.size:=by rw[hV];simp
 have cx0:V.cell? ⟨w.heap.size,0,none⟩=some (.int .i64 X1):=by rw[hV];go_simp
 have cx1:V.cell? ⟨w.heap.size,1,none⟩=some (.int .i64 X2):=by rw[hV];go_simp
 have cy0:V.cell? ⟨w.heap.size+1,0,none⟩=some (.int .i64 Y1):=by rw[hV];go_simp
 have cy1:V.cell? ⟨w.heap.size+1,1,none⟩=some (.int .i64 Y2):=by rw[hV];go_simp
 have HV:=Lib.hid hV
 have HG:=Lib.hid gV
 clear hV gV
 obtain ⟨q1,q2,q3,q4⟩:=hFF
 by_cases h1:X1<Y1
 ·
  have e1:decide (X1<Y1)=true:=decide_eq_true h1
  cases h2:(Y1%X1==0)
  ·
   clear q1 q3 hm1 hm2
   go_enter Tryz.func29,Tryz.ntmps29
   go_upto_region 1 with (fail)
   rw[←HV.out]
   clear HV
   refine region_R (by kernel_rfl) (by kernel_rfl) ?_
   refine rv ?_;simp only[Pu]
   refine r_val (v:=?qv135) (by kernel_rfl) (fun W hW=>?qh135) ?qr135
   case qh135=>have g:=(Below.cell hW (p:=⟨w.heap.size+1,0,none⟩) hzy).trans cy0;go_light;go_simp;rfl
   simp only[Pu]
   refine rv ?_;simp only[Pu]
   refine r_val (v:=?qv137) (by kernel_rfl) (fun W hW=>?qh137) ?qr137
   case qh137=>have g:=(Below.cell hW (p:=⟨w.heap.size,0,none⟩) hzx).trans cx0;go_light;go_simp;rfl
   simp only[Pu]
   iterate 3 (refine rv ?_;simp only[Pu])
   refine r_val (v:=?qv141) (by kernel_rfl) (fun W hW=>?qh141) ?qr141
   case qh141=>have g:=(Below.cell hW (p:=⟨w.heap.size+1,0,none⟩) hzy).trans cy0;go_light;go_simp;rfl
   simp only[Pu]
   refine rv ?_;simp only[Pu]
   refine r_val (v:=?qv143) (by kernel_rfl) (fun W hW=>?qh143) ?qr143
   case qh143=>have g:=(Below.cell hW (p:=⟨w.heap.size,0,none⟩) hzx).trans cx0;go_light;go_simp;rfl
   simp only[Pu]
   iterate 4 (refine rv ?_;simp only[Pu])
   iterate 11 (refine rs ?_;simp only[Pu])
   iterate 2 (refine rv ?_;simp only[Pu])
   iterate 8 (refine rs ?_;simp only[Pu])
   iterate 2 (refine rv ?_;simp only[Pu])
   refine r_nil ?_
   intro w8 hw8
   go_wp2
   go_ret
   exact ⟨ret_b (by rw[HF.out,e1,h2];rfl),HG.out.trans hw8⟩
  ·
   by_cases h3:X1*X2<Y1*Y2
   ·
    have e3:decide (X1*X2<Y1*Y2)=true:=decide_eq_true h3
    by_cases h4:Y1/X1≤X2
    ·
     have e4:decide (Y1/X1≤X2)=true:=decide_eq_true h4
     go_enter Tryz.func29,Tryz.ntmps29
     go_upto_region 1 with (fail)
     rw[←HV.out]
     clear HV
     refine region_R (by kernel_rfl) (by kernel_rfl) ?_
     refine rv ?_;simp only[Pu]
     refine r_val (v:=?qv153) (by kernel_rfl) (fun W hW=>?qh153) ?qr153
     case qh153=>have g:=(Below.cell hW (p:=⟨w.heap.size+1,0,none⟩) hzy).trans cy0;go_light;go_simp;rfl
     simp only[Pu]
     refine rv ?_;simp only[Pu]
     refine r_val (v:=?qv155) (by kernel_rfl) (fun W hW=>?qh155) ?qr155
     case qh155=>have g:=(Below.cell hW (p:=⟨w.heap.size,0,none⟩) hzx).trans cx0;go_light;go_simp;rfl
     simp only[Pu]
     iterate 3 (refine rv ?_;simp only[Pu])
     refine r_val (v:=?qv159) (by kernel_rfl) (fun W hW=>?qh159) ?qr159
     case qh159=>have g:=(Below.cell hW (p:=⟨w.heap.size+1,0,none⟩) hzy).trans cy0;go_light;go_simp;rfl
     simp only[Pu]
     refine rv ?_;simp only[Pu]
     refine r_val (v:=?qv161) (by kernel_rfl) (fun W hW=>?qh161) ?qr161
     case qh161=>have g:=(Below.cell hW (p:=⟨w.heap.size,0,none⟩) hzx).trans cx0;go_light;go_simp;rfl
     simp only[Pu]
     iterate 5 (refine rv ?_;simp only[Pu])
     refine r_val (v:=?qv167) (by kernel_rfl) (fun W hW=>?qh167) ?qr167
     case qh167=>have g:=(Below.cell hW (p:=⟨w.heap.size+1,0,none⟩) hzy).trans cy0;go_light;go_simp;rfl
     simp only[Pu]
     refine rv ?_;simp only[Pu]
     refine r_val (v:=?qv169) (by kernel_rfl) (fun W hW=>?qh169) ?qr169
     case qh169=>have g:=(Below.cell hW (p:=⟨w.heap.size+1,1,none⟩) hzy).trans cy1;go_light;go_simp;rfl
     simp only[Pu]
     iterate 2 (refine rv ?_;simp only[Pu])
     refine r_val (v:=?qv172) (by kernel_rfl) (fun W hW=>?qh172) ?qr172
     case qh172=>have g:=(Below.cell hW (p:=⟨w.heap.size,0,none⟩) hzx).trans cx0;go_light;go_simp;rfl
     simp only[Pu]
     refine rv ?_;simp only[Pu]
     refine r_val (v:=?qv174) (by kernel_rfl) (fun W hW=>?qh174) ?qr174
     case qh174=>have g:=(Below.cell hW (p:=⟨w.heap.size,1,none⟩) hzx).trans cx1;go_light;go_simp;rfl
     simp only[Pu]
     iterate 5 (refine rv ?_;simp only[Pu])
     refine r_val (v:=?qv180) (by kernel_rfl) (fun W hW=>?qh180) ?qr180
     case qh180=>have g:=(Below.cell hW (p:=⟨w.heap.size,1,none⟩) hzx).trans cx1;go_light;go_simp;rfl
     simp only[Pu]
     refine rv ?_;simp only[Pu]
     refine r_val (v:=?qv182) (by kernel_rfl) (fun W hW=>?qh182) ?qr182
     case qh182=>have g:=(Below.cell hW (p:=⟨w.heap.size+1,0,none⟩) hzy).trans cy0;go_light;go_simp;rfl
     simp only[Pu]
     refine rv ?_;simp only[Pu]
     refine r_val (v:=?qv184) (by kernel_rfl) (fun W hW=>?qh184) ?qr184
     case qh184=>have g:=(Below.cell hW (p:=⟨w.heap.size,0,none⟩) hzx).trans cx0;go_light;go_simp;rfl
     simp only[Pu]
     iterate 4 (refine rv ?_;simp only[Pu])
     refine r_nil ?_
     intro w8 hw8
     go_wp2
     go_ret
     exact ⟨ret_b (by rw[HF.out,e1,h2,e3,e4];rfl),HG.out.trans hw8⟩
    ·
     have e4:decide (Y1/X1≤X2)=false:=decide_eq_false h4
     go_enter Tryz.func29,Tryz.ntmps29
     go_upto_region 1 with (fail)
     rw[←HV.out]
     clear HV
     refine region_R (by kernel_rfl) (by kernel_rfl) ?_
     refine rv ?_;simp only[Pu]
     refine r_val (v:=?qv190) (by kernel_rfl) (fun W hW=>?qh190) ?qr190
     case qh190=>have g:=(Below.cell hW (p:=⟨w.heap.size+1,0,none⟩) hzy).trans cy0;go_light;go_simp;rfl
     simp only[Pu]
     refine rv ?_;simp only[Pu]
     refine r_val (v:=?qv192) (by kernel_rfl) (fun W hW=>?qh192) ?qr192
     case qh192=>have g:=(Below.cell hW (p:=⟨w.heap.size,0,none⟩) hzx).trans cx0;go_light;go_simp;rfl
     simp only[Pu]
     iterate 3 (refine rv ?_;simp only[Pu])
     refine r_val (v:=?qv196) (by kernel_rfl) (fun W hW=>?qh196) ?qr196
     case qh196=>have g:=(Below.cell hW (p:=⟨w.heap.size+1,0,none⟩) hzy).trans cy0;go_light;go_simp;rfl
     simp only[Pu]
     refine rv ?_;simp only[Pu]
     refine r_val (v:=?qv198) (by kernel_rfl) (fun W hW=>?qh198) ?qr198
     case qh198=>have g:=(Below.cell hW (p:=⟨w.heap.size,0,none⟩) hzx).trans cx0;go_light;go_simp;rfl
     simp only[Pu]
     iterate 5 (refine rv ?_;simp only[Pu])
     refine r_val (v:=?qv204) (by kernel_rfl) (fun W hW=>?qh204) ?qr204
     case qh204=>have g:=(Below.cell hW (p:=⟨w.heap.size+1,0,none⟩) hzy).trans cy0;go_light;go_simp;rfl
     simp only[Pu]
     refine rv ?_;simp only[Pu]
     refine r_val (v:=?qv206) (by kernel_rfl) (fun W hW=>?qh206) ?qr206
     case qh206=>have g:=(Below.cell hW (p:=⟨w.heap.size+1,1,none⟩) hzy).trans cy1;go_light;go_simp;rfl
     simp only[Pu]
     iterate 2 (refine rv ?_;simp only[Pu])
     refine r_val (v:=?qv209) (by kernel_rfl) (fun W hW=>?qh209) ?qr209
     case qh209=>have g:=(Below.cell hW (p:=⟨w.heap.size,0,none⟩) hzx).trans cx0;go_light;go_simp;rfl
     simp only[Pu]
     refine rv ?_;simp only[Pu]
     refine r_val (v:=?qv211) (by kernel_rfl) (fun W hW=>?qh211) ?qr211
     case qh211=>have g:=(Below.cell hW (p:=⟨w.heap.size,1,none⟩) hzx).trans cx1;go_light;go_simp;rfl
     simp only[Pu]
     iterate 5 (refine rv ?_;simp only[Pu])
     refine r_val (v:=?qv217) (by kernel_rfl) (fun W hW=>?qh217) ?qr217
     case qh217=>have g:=(Below.cell hW (p:=⟨w.heap.size,1,none⟩) hzx).trans cx1;go_light;go_simp;rfl
     simp only[Pu]
     refine rv ?_;simp only[Pu]
     refine r_val (v:=?qv219) (by kernel_rfl) (fun W hW=>?qh219) ?qr219
     case qh219=>have g:=(Below.cell hW (p:=⟨w.heap.size+1,0,none⟩) hzy).trans cy0;go_light;go_simp;rfl
     simp only[Pu]
     refine rv ?_;simp only[Pu]
     refine r_val (v:=?qv221) (by kernel_rfl) (fun W hW=>?qh221) ?qr221
     case qh221=>have g:=(Below.cell hW (p:=⟨w.heap.size,0,none⟩) hzx).trans cx0;go_light;go_simp;rfl
     simp only[Pu]
     iterate 4 (refine rv ?_;simp only[Pu])
     refine r_nil ?_
     intro w8 hw8
     go_wp2
     go_ret
     exact ⟨ret_b (by rw[HF.out,e1,h2,e3,e4];rfl),HG.out.trans hw8⟩
   ·
    have e3:decide (X1*X2<Y1*Y2)=false:=decide_eq_false h3
    clear q1 q3
    go_enter Tryz.func29,Tryz.ntmps29
    go_upto_region 1 with (fail)
    rw[←HV.out]
    clear HV
    refine region_R (by kernel_rfl) (by kernel_rfl) ?_
    refine rv ?_;simp only[Pu]
    refine r_val (v:=?qv227) (by kernel_rfl) (fun W hW=>?qh227) ?qr227
    case qh227=>have g:=(Below.cell hW (p:=⟨w.heap.size+1,0,none⟩) hzy).trans cy0;go_light;go_simp;rfl
    simp only[Pu]
    refine rv ?_;simp only[Pu]
    refine r_val (v:=?qv229) (by kernel_rfl) (fun W hW=>?qh229) ?qr229
    case qh229=>have g:=(Below.cell hW (p:=⟨w.heap.size,0,none⟩) hzx).trans cx0;go_light;go_simp;rfl
    simp only[Pu]
    iterate 3 (refine rv ?_;simp only[Pu])
    refine r_val (v:=?qv233) (by kernel_rfl) (fun W hW=>?qh233) ?qr233
    case qh233=>have g:=(Below.cell hW (p:=⟨w.heap.size+1,0,none⟩) hzy).trans cy0;go_light;go_simp;rfl
    simp only[Pu]
    refine rv ?_;simp only[Pu]
    refine r_val (v:=?qv235) (by kernel_rfl) (fun W hW=>?qh235) ?qr235
    case qh235=>have g:=(Below.cell hW (p:=⟨w.heap.size,0,none⟩) hzx).trans cx0;go_light;go_simp;rfl
    simp only[Pu]
    iterate 5 (refine rv ?_;simp only[Pu])
    refine r_val (v:=?qv241) (by kernel_rfl) (fun W hW=>?qh241) ?qr241
    case qh241=>have g:=(Below.cell hW (p:=⟨w.heap.size+1,0,none⟩) hzy).trans cy0;go_light;go_simp;rfl
    simp only[Pu]
    refine rv ?_;simp only[Pu]
    refine r_val (v:=?qv243) (by kernel_rfl) (fun W hW=>?qh243) ?qr243
    case qh243=>have g:=(Below.cell hW (p:=⟨w.heap.size+1,1,none⟩) hzy).trans cy1;go_light;go_simp;rfl
    simp only[Pu]
    iterate 2 (refine rv ?_;simp only[Pu])
    refine r_val (v:=?qv246) (by kernel_rfl) (fun W hW=>?qh246) ?qr246
    case qh246=>have g:=(Below.cell hW (p:=⟨w.heap.size,0,none⟩) hzx).trans cx0;go_light;go_simp;rfl
    simp only[Pu]
    refine rv ?_;simp only[Pu]
    refine r_val (v:=?qv248) (by kernel_rfl) (fun W hW=>?qh248) ?qr248
    case qh248=>have g:=(Below.cell hW (p:=⟨w.heap.size,1,none⟩) hzx).trans cx1;go_light;go_simp;rfl
    simp only[Pu]
    iterate 4 (refine rv ?_;simp only[Pu])
    iterate 8 (refine rs ?_;simp only[Pu])
    iterate 2 (refine rv ?_;simp only[Pu])
    refine r_nil ?_
    intro w8 hw8
    go_wp2
    go_ret
    exact ⟨ret_b (by rw[HF.out,e1,h2,e3];rfl),HG.out.trans hw8⟩
 ·
  have e1:decide (X1<Y1)=false:=decide_eq_false h1
  clear q1 q2 q3 hm1 hm2
  go_enter Tryz.func29,Tryz.ntmps29
  go_upto_region 1 with (fail)
  rw[←HV.out]
  clear HV
  refine region_R (by kernel_rfl) (by kernel_rfl) ?_
  refine rv ?_;simp only[Pu]
  refine r_val (v:=?qv256) (by kernel_rfl) (fun W hW=>?qh256) ?qr256
  case qh256=>have g:=(Below.cell hW (p:=⟨w.heap.size+1,0,none⟩) hzy).trans cy0;go_light;go_simp;rfl
  simp only[Pu]
  refine rv ?_;simp only[Pu]
  refine r_val (v:=?qv258) (by kernel_rfl) (fun W hW=>?qh258) ?qr258
  case qh258=>have g:=(Below.cell hW (p:=⟨w.heap.size,0,none⟩) hzx).trans cx0;go_light;go_simp;rfl
  simp only[Pu]
  iterate 2 (refine rv ?_;simp only[Pu])
  iterate 6 (refine rs ?_;simp only[Pu])
  iterate 2 (refine rv ?_;simp only[Pu])
  iterate 11 (refine rs ?_;simp only[Pu])
  iterate 2 (refine rv ?_;simp only[Pu])
  iterate 8 (refine rs ?_;simp only[Pu])
  iterate 2 (refine rv ?_;simp only[Pu])
  refine r_nil ?_
  intro w8 hw8
  go_wp2
  go_ret
  exact ⟨ret_b (by rw[HF.out,e1];rfl),HG.out.trans hw8⟩
end Go.Proofs.YtoncapkmaeghfaaGreat
