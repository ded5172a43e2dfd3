import Derived.Test.YtoncapkmaeghfaaGreatRunVfFs
import Derived.Test.YtoncapkmaeghfaaGreatRunFxBase
import Derived.Test.YtoncapkmaeghfaaGreatVfShelf
import Derived.Test.YtoncapkmaeghfaaGreatRunWhFit
set_option linter.all false
set_option maxRecDepth 1000000
set_option maxHeartbeats 12800000
namespace Go.Proofs.YtoncapkmaeghfaaGreat
section
open Go.RowKit Go.ChangeMaps Go.Maps
theorem info_chg:(Tryz.prog.info? 115).map (fun i=>(i.zero,i.size,i.bytes))=some (some (.agg #[.int .i64 0, .string ByteArray.empty, .int .i64 0, .slice none 0 0]),4,56):=by kernel_rfl
def DoS (F P B:Nat) (v k s a d:Value) (W:World):Prop:=W.cell? ⟨F,0,none⟩=some (.pointer (some ⟨P,0,none⟩))∧W.cell? ⟨P,0,none⟩=some v∧W.cell? ⟨B,0,none⟩=some k∧W.cell? ⟨B,1,none⟩=some s∧W.cell? ⟨B,2,none⟩=some a∧W.cell? ⟨B,3,none⟩=some d
theorem DoS.kp {F P B:Nat} {v k s a d:Value} {W W':World} {S:Nat→Prop} (h:DoS F P B v k s a d W) (q:Kp S W W') (lF:F<W.heap.size) (lP:P<W.heap.size) (lB:B<W.heap.size) (hF:¬S F) (hP:¬S P) (hB:¬S B):DoS F P B v k s a d W':=
 ⟨(q.cell (a:=⟨F,0,none⟩) lF hF).trans h.1,(q.cell (a:=⟨P,0,none⟩) lP hP).trans h.2.1,(q.cell (a:=⟨B,0,none⟩) lB hB).trans h.2.2.1,(q.cell (a:=⟨B,1,none⟩) lB hB).trans h.2.2.2.1,(q.cell (a:=⟨B,2,none⟩) lB hB).trans h.2.2.2.2.1,(q.cell (a:=⟨B,3,none⟩) lB hB).trans h.2.2.2.2.2⟩
theorem FsM.noted {w W5 w9:World} {Y:Nat→Prop} {F P M:Nat} {R:Option Nat} {room:Int} {n m:Nat} {D:Option (List UInt8)} (h:FsM Y w F P M R room n D) {v':Value} {ys:List Value} (g5:Gr w W5) (hgr:W5.grownBy w9 R) (own9:w9.ownsRow 0 115 4 v' m ys) (hat:v'.ownBlock=R∨v'.ownBlock=some W5.heap.size) :
  FsM Y (w9.setCell ⟨P,0,none⟩ v') F P M v'.ownBlock room m D∧Kp (fun k=>k=P∨R=some k) w (w9.setCell ⟨P,0,none⟩ v')∧(∀k,v'.ownBlock=some k→R=some k∨w.heap.size≤k):=by
 have k:Kp (fun k=>k=P∨R=some k) w (w9.setCell ⟨P,0,none⟩ v'):=((Kp.of_gr (fun k=>k=P∨R=some k) g5).grown hgr (fun i hi=> .inl (.inr hi))).set (p:=⟨P,0,none⟩) (.inl (.inl rfl)) _
 have hfr:∀i,v'.ownBlock=some i→R=some i∨w.heap.size≤i:=fun i hi=>by
  rcases hat with e|e
  ·
   exact .inl (e▸hi)
  ·
   rw[e] at hi;injection hi with hi;exact .inr (by rw[←hi];exact g5.size)
 have hnF:¬(F=P∨R=some F):=fun e=>by
  rcases e with e|e
  ·
   exact h.nfp e
  ·
   exact (h.rr F e).1 rfl
 have hnM:¬(M=P∨R=some M):=fun e=>by
  rcases e with e|e
  ·
   exact h.npm e.symm
  ·
   exact (h.rr M e).2.2 rfl
 have k9:Kp (fun k=>R=some k) w w9:=(Kp.of_gr (fun k=>R=some k) g5).grown hgr (fun i hi=> .inl hi)
 have hnP:¬R=some P:=fun e=>(h.rr P e).2.1 rfl
 obtain ⟨v,xs,v1,v2,v3⟩:=h.p0
 obtain ⟨y,hy⟩:=h.p1
 have q0:(w9.setCell ⟨P,0,none⟩ v').cell? ⟨P,0,none⟩=some v':=World.cell?_setCell_same' _ _ _ (by rw[k9.cell (a:=⟨P,0,none⟩) h.lp hnP,v1];rfl)
 have q1:(w9.setCell ⟨P,0,none⟩ v').cell? ⟨P,1,none⟩=some y:=(World.cell?_setCell_other _ ⟨P,0,none⟩ ⟨P,1,none⟩ _ (by first|(simp;done)|(simp;omega))).trans ((k9.cell (a:=⟨P,1,none⟩) h.lp hnP).trans hy)
 have kS:Kp (fun k=>k=P) w9 (w9.setCell ⟨P,0,none⟩ v'):=(Kp.refl (fun k=>k=P) _).set (p:=⟨P,0,none⟩) (.inl (show P=P from rfl)) _
 have hoP:∀i,v'.ownBlock=some i→i≠F∧i≠P∧i≠M:=fun i hi=>by
  rcases hfr i hi with e|e
  ·
   exact h.rr i e
  ·
   have:=h.lf;have:=h.lp;have:=h.lm
   exact ⟨fun e=>by omega,fun e=>by omega,fun e=>by omega⟩
 refine ⟨⟨Nat.lt_of_lt_of_le h.lf k.size,Nat.lt_of_lt_of_le h.lp k.size,Nat.lt_of_lt_of_le h.lm k.size,h.nfp,h.nfm,h.npm,(k.cell (a:=⟨F,0,none⟩) h.lf hnF).trans h.f0,(k.cell (a:=⟨F,1,none⟩) h.lf hnF).trans h.f1,(k.cell (a:=⟨F,2,none⟩) h.lf hnF).trans h.f2,
  ⟨v',ys,q0,rfl,kS.own own9 (fun i hi=>(hoP i hi).2.1)⟩,⟨y,q1⟩,by rw[World.frozen?_setCell];exact (k9.frozen (a:=⟨P,0,none⟩) h.lp hnP).trans h.z0,by rw[World.frozen?_setCell];exact (k9.frozen (a:=⟨P,1,none⟩) h.lp hnP).trans h.z1,hoP,fun i hi=>Nat.lt_of_lt_of_le (h.yl i hi) k.size,?_⟩,k,hfr⟩
 cases D with
 | none=>
  obtain ⟨clk,hb⟩:=h.mp
  exact ⟨clk,(k.block M h.lm hnM).trans hb⟩
 | some l=>
  obtain ⟨clk,born,A,c,hb,hc,hr,hq⟩:=h.mp
  have hq:=hq.imp (Q':=fun g=>(g≠P∧g≠M∧v'.ownBlock≠some g∧¬Y g)∧¬(g=P∨R=some g)) (fun g hg hq=>⟨⟨hq.1,hq.2.1,fun e=>by
   rcases hfr g e with e|e
   ·
    exact hq.2.2.1 e
   ·
    omega,hq.2.2.2⟩,fun e=>by
   rcases e with e|e
   ·
    exact hq.1 e
   ·
    exact hq.2.2.1 e⟩)
  have h2:=hq.kp k (fun g _ hq e=>hq.2 e) hr
  exact ⟨clk,born,A,c,(k.block M h.lm hnM).trans hb,hc,h2.1,h2.2.imp (fun g _ hq=>hq.1)⟩
theorem does_row {Y:Nat→Prop} {F P M:Nat} {R:Option Nat} {room:Int} {n:Nat} {D D':Option (List UInt8)} (kd at_:Int) (gd:Option Addr) (ld dd:Nat) (hn:n≤1000000) (w:World) (h:FsM Y w F P M R room n D) (v0:Value) (xs0:List Value) (hv0:w.cell? ⟨P,0,none⟩=some v0) (ho0:w.ownsRow 0 115 4 v0 n xs0)
  (hap:∀W,Gr w W→Calls Tryz.prog 83 #[.pointer (some ⟨F,0,none⟩), .agg #[.int .i64 kd, .string nmA, .int .i64 at_, .slice gd ld dd]] W fun e w'=>e= .returned (.tuple #[])∧FsM Y w' F P M R room n D'∧Kp (fun k=>k=M) W w') :
  Calls Tryz.prog 49 #[.pointer (some ⟨F,0,none⟩), .agg #[.int .i64 kd, .string nmA, .int .i64 at_, .slice gd ld dd]] w fun e w'=>e= .returned (.tuple #[])∧∃R',FsM Y w' F P M R' room (n+1) D'∧Kp (Tch P M R) w w'∧(∀i,R'=some i→R=some i∨w.heap.size≤i)∧(∃v',w'.cell? ⟨P,0,none⟩=some v'∧v'.ownBlock=R'∧w'.ownsRow 0 115 4 v' (n+1) (xs0++[.int .i64 kd, .string nmA, .int .i64 at_, .slice gd ld dd]))∧w'.cell? ⟨P,1,none⟩=w.cell? ⟨P,1,none⟩:=by
 obtain ⟨i0,hi0,hy0,hy1,hy2⟩:=info_parts info_chg
 obtain ⟨V,hV⟩:∃V,V=w.alloc (.cells #[.int .i64 kd, .string nmA, .int .i64 at_, .slice gd ld dd] 115):=⟨_,rfl⟩
 have gV:Gr w V:=by rw[hV];exact Gr.alloc (Gr.refl w) _
 have hz:w.heap.size<V.heap.size:=by rw[hV];simp
 have c0:V.cell? ⟨w.heap.size,0,none⟩=some (.int .i64 kd):=by rw[hV];go_simp
 have c1:V.cell? ⟨w.heap.size,1,none⟩=some (.string nmA):=by rw[hV];go_simp
 have c2:V.cell? ⟨w.heap.size,2,none⟩=some (.int .i64 at_):=by rw[hV];go_simp
 have c3:V.cell? ⟨w.heap.size,3,none⟩=some (.slice gd ld dd):=by rw[hV];go_simp
 have HA:=Lib.hid (hap V gV)
 have H0:=Lib.hid h
 have HV:=Lib.hid hV
 have HG:=Lib.hid gV
 have hRs:Hid (∀i,R=some i→i<w.heap.size):=Lib.hid fun i e=>by
  obtain ⟨v,xs,v1,v2,v3⟩:=h.p0
  exact (v3.lt i (by rw[v2];exact e)).2
 have hv0R:v0.ownBlock=R:=by
  obtain ⟨v,xs,a1,a2,a3⟩:=h.p0
  rw[hv0] at a1
  injection a1 with a1
  rw[a1];exact a2
 have HV0:=Lib.hid (And.intro ((Below.cell gV (p:=⟨P,0,none⟩) h.lp).trans hv0) (And.intro (own_grU ho0 gV) hv0R))
 have HP1:=Lib.hid (Below.cell gV (p:=⟨P,1,none⟩) h.lp)
 clear hV gV h hap hv0 ho0 hv0R
 go_enter Tryz.func49,Tryz.ntmps49
 go_upto_region 1 with (fail)
 rw[←HV.out]
 clear HV
 go_upto_region 2 with (go_at_call 83;refine HA.out.mono ?_;rintro e w1 ⟨rfl,hF1,k1⟩;have d0:=(k1.cell (a:=⟨w.heap.size,0,none⟩) hz (fun e=>by have:=H0.out.lm;simp only at e;omega)).trans c0;have d1:=(k1.cell (a:=⟨w.heap.size,1,none⟩) hz (fun e=>by have:=H0.out.lm;simp only at e;omega)).trans c1;have d2:=(k1.cell (a:=⟨w.heap.size,2,none⟩) hz (fun e=>by have:=H0.out.lm;simp only at e;omega)).trans c2;have d3:=(k1.cell (a:=⟨w.heap.size,3,none⟩) hz (fun e=>by have:=H0.out.lm;simp only at e;omega)).trans c3;have HF1:=Lib.hid hF1;have K1:=Lib.hid k1;have hz1:=Nat.lt_of_lt_of_le hz k1.size;clear hF1 k1)
 clear c0 c1 c2 c3
 have v1:w1.cell? ⟨P,0,none⟩=some v0:=(K1.out.cell (a:=⟨P,0,none⟩) (Nat.lt_of_lt_of_le H0.out.lp HG.out.size) H0.out.npm).trans HV0.out.1
 have v2:v0.ownBlock=R:=HV0.out.2.2
 have v3:w1.ownsRow 0 115 4 v0 n xs0:=K1.out.own HV0.out.2.1 (fun i hi e=>(H0.out.rr i (by rw[←v2];exact hi)).2.2 e)
 have HPC:=Lib.hid ((K1.out.cell (a:=⟨P,1,none⟩) (Nat.lt_of_lt_of_le H0.out.lp HG.out.size) H0.out.npm).trans HP1.out)
 obtain ⟨A0,cp0,hv⟩:=own_form v3
 subst hv
 have HV3:=Lib.hid (And.intro v2 v3)
 have hw1:DoS F P w.heap.size (.slice A0 n cp0) (.int .i64 kd) (.string nmA) (.int .i64 at_) (.slice gd ld dd) w1:=⟨HF1.out.f0,v1,d0,d1,d2,d3⟩
 refine wp_region_Z 16 (DoS F P w.heap.size (.slice A0 n cp0) (.int .i64 kd) (.string nmA) (.int .i64 at_) (.slice gd ld dd)) (by kernel_rfl) ?_
 have hS0:DoS F P w.heap.size (.slice A0 n cp0) (.int .i64 kd) (.string nmA) (.int .i64 at_) (.slice gd ld dd) w1.drew:=hw1
 have g0:Gr w1 w1.drew:=Gr.drew (Gr.refl _)
 obtain ⟨W0,hW0⟩:∃W0,W0=w1.drew:=⟨_,rfl⟩
 rw[←hW0] at hS0 g0 ⊢
 clear hW0 hw1 d0 d1 d2 d3 v1 v2 v3
 refine zu 0 rfl hS0 (fun W hS=>by go_simp;rfl) ?_
 refine zu 1 rfl hS0 (fun W hS=>by go_simp;rfl) ?_
 refine zu 2 rfl hS0 (fun W hS=>by go_simp;rfl) ?_
 refine zu 3 rfl hS0 (fun W hS=>by have s0:=hS.1;go_simp;rfl) ?_
 refine zu 4 rfl hS0 (fun W hS=>by go_simp;rfl) ?_
 refine zu 5 rfl hS0 (fun W hS=>by go_simp;rfl) ?_
 refine zu 6 rfl hS0 (fun W hS=>by go_simp;rfl) ?_
 refine zu 7 rfl hS0 (fun W hS=>by have s0:=hS.1;go_simp;rfl) ?_
 refine zu 8 rfl hS0 (fun W hS=>by go_simp;rfl) ?_
 refine zu 9 rfl hS0 (fun W hS=>by go_simp;rfl) ?_
 refine zu 10 rfl hS0 (fun W hS=>by have s1:=hS.2.1;go_simp;rfl) ?_
 refine zu 11 rfl hS0 (fun W hS=>by have s2:=hS.2.2.1;have s3:=hS.2.2.2.1;have s4:=hS.2.2.2.2.1;have s5:=hS.2.2.2.2.2;go_simp;rfl) ?_
 refine wpAnyZ_ready (rs:=[12]) (by kernel_rfl) (by simp) ?_
 refine AllReadyZ.cons (i:=12) rfl (by kernel_rfl) ?zx1 AllReadyZ.nil
 intro K hK
 simp only[List.getElem_toArray,List.getElem_cons_succ,List.getElem_cons_zero]
 have hrx:Rd (W0.alloc (.cells #[.int .i64 kd, .string nmA, .int .i64 at_, .slice gd ld dd] 115)) 4 (some ⟨W0.heap.size,0,none⟩) 1 [.int .i64 kd, .string nmA, .int .i64 at_, .slice gd ld dd]:=Rd.newU (W:=W0) rfl 115 [.int .i64 kd, .string nmA, .int .i64 at_, .slice gd ld dd] rfl
 have g5:Gr W0 (W0.alloc (.cells #[.int .i64 kd, .string nmA, .int .i64 at_, .slice gd ld dd] 115)):=Gr.alloc (Gr.refl _) _
 have lz:w.heap.size<W0.heap.size:=Nat.lt_of_lt_of_le hz1 g0.size
 have lf:=Nat.lt_of_lt_of_le HF1.out.lf g0.size
 have lp:=Nat.lt_of_lt_of_le HF1.out.lp g0.size
 go_simp
 refine hK.out _ _ (fun hnz=>?zs2) (fun _=>?zr3)
 case zs2=>exact hS0.kp (Kp.of_gr (fun _=>False) g5) lf lp lz (fun h=>h) (fun h=>h) (fun h=>h)
 clear hK K
 try (simp only[Pu,List.getElem_toArray,List.getElem_cons_succ,List.getElem_cons_zero])
 obtain ⟨W5,hW5⟩:∃W5,W5=W0.alloc (.cells #[.int .i64 kd, .string nmA, .int .i64 at_, .slice gd ld dd] 115):=⟨_,rfl⟩
 rw[←hW5] at hrx g5 ⊢
 clear hW5
 have hS5:=hS0.kp (Kp.of_gr (fun _=>False) g5) lf lp lz (fun h=>h) (fun h=>h) (fun h=>h)
 have o5:=own_grU (own_grU HV3.out.2 g0) g5
 refine wpAnyZ_ready (rs:=[13]) (by kernel_rfl) (by simp) ?_
 refine AllReadyZ.cons (i:=13) rfl (by kernel_rfl) ?zx4 AllReadyZ.nil
 intro K hK
 simp only[List.getElem_toArray,List.getElem_cons_succ,List.getElem_cons_zero]
 refine wp_append_rd0 (.tmp 17) (.tmp 19) 75 rfl 0 115 i0 _ 4 56 Tryz.underlying75 hi0 hy0 hy1 hy2 rfl (by decide) _ n _ rfl o5 (some ⟨W0.heap.size,0,none⟩) 1 _ [.int .i64 kd, .string nmA, .int .i64 at_, .slice gd ld dd] rfl hrx (by intro u hu;simp at hu;rcases hu with rfl|rfl|rfl|rfl<;>rfl) (by unfold maxLen;omega) (by omega) (by omega) ?_
 intro v' w9 own9 hgr9 hob9
 have hnt:=HF1.out.noted (g0.trans g5) (by rw[←HV3.out.1];exact hgr9) own9 (by rw[←HV3.out.1];exact hob9)
 have hown:∀i,(Value.slice A0 n cp0).ownBlock=some i→i<w.heap.size:=fun i e=>hRs.out i (by rw[←HV3.out.1];exact e)
 have hS9:DoS F P w.heap.size (.slice A0 n cp0) (.int .i64 kd) (.string nmA) (.int .i64 at_) (.slice gd ld dd) w9:=
  hS5.kp ((Kp.refl (fun q=>(Value.slice A0 n cp0).ownBlock=some q) _).grown hgr9 (fun q hq=> .inl hq)) (Nat.lt_of_lt_of_le lf g5.size) (Nat.lt_of_lt_of_le lp g5.size) (Nat.lt_of_lt_of_le lz g5.size) (fun e=>(HF1.out.rr F (by rw[←HV3.out.1];exact e)).1 rfl) (fun e=>(HF1.out.rr P (by rw[←HV3.out.1];exact e)).2.1 rfl) (fun e=>by have:=hown _ e;omega)
 have z9:w9.frozen? ⟨P,0,none⟩=false:=by
  have k9:Kp (fun q=>(Value.slice A0 n cp0).ownBlock=some q) w1 w9:=(Kp.of_gr _ (g0.trans g5)).grown hgr9 (fun q hq=> .inl hq)
  exact (k9.frozen (a:=⟨P,0,none⟩) HF1.out.lp (fun e=>(HF1.out.rr P (by rw[←HV3.out.1];exact e)).2.1 rfl)).trans HF1.out.z0
 have p9:(w9.setCell ⟨P,0,none⟩ v').cell? ⟨P,1,none⟩=w.cell? ⟨P,1,none⟩:=by
  have k9:Kp (fun q=>(Value.slice A0 n cp0).ownBlock=some q) w1 w9:=(Kp.of_gr _ (g0.trans g5)).grown hgr9 (fun q hq=> .inl hq)
  exact (World.cell?_setCell_other _ ⟨P,0,none⟩ ⟨P,1,none⟩ _ (by first|(simp;done)|(simp;omega))).trans ((k9.cell (a:=⟨P,1,none⟩) HF1.out.lp (fun e=>(HF1.out.rr P (by rw[←HV3.out.1];exact e)).2.1 rfl)).trans HPC.out)
 have own10:=ownsRow_setCell_other own9 (a:=⟨P,0,none⟩) (fun e=>(hnt.1.rr P e).2.1 rfl) v'
 have q9:(w9.setCell ⟨P,0,none⟩ v').cell? ⟨P,0,none⟩=some v':=World.cell?_setCell_same' _ _ _ (by rw[hS9.2.1];rfl)
 have HO9:=Lib.hid (And.intro q9 (And.intro own10 p9))
 clear p9 own10 q9
 obtain ⟨A9,c9,hv9⟩:=own_form own9
 subst hv9
 have HN:=Lib.hid hnt
 clear hnt own9 hgr9 hob9 o5 hrx hS5 hS0 hown g5
 refine hK.out _ _ (fun hnz=>?zs5) (fun _=>?zr6)
 case zs5=>exact hS9
 clear hK K
 try (simp only[Pu,List.getElem_toArray,List.getElem_cons_succ,List.getElem_cons_zero])
 refine zu 14 rfl hS9 (fun W hS=>by go_simp;rfl) ?_
 refine zu 15 rfl hS9 (fun W hS=>by go_simp;rfl) ?_
 refine wpAnyZ_ready (rs:=[16]) (by kernel_rfl) (by simp) ?_
 refine AllReadyZ.cons (i:=16) rfl (by kernel_rfl) ?zx7 AllReadyZ.nil
 intro K hK
 simp only[List.getElem_toArray,List.getElem_cons_succ,List.getElem_cons_zero]
 have s1:=hS9.2.1
 go_simp
 refine hK.out _ _ (fun hnz=>?zs8) (fun _=>?zr9)
 case zs8=>exact absurd rfl hnz
 clear hK K
 try (simp only[Pu,List.getElem_toArray,List.getElem_cons_succ,List.getElem_cons_zero])
 refine wpAnyZ_done (by kernel_rfl) ?_ _
 go_wp2
 go_end0
 refine ⟨rfl,_,HN.out.1,?_,fun i hi=>?_,⟨_,HO9.out.1,rfl,HO9.out.2.1⟩,HO9.out.2.2⟩
 ·
  refine (((Kp.of_gr (Tch P M R) HG.out).trans K1.out (fun i _ e=> .inr (.inl e))).trans HN.out.2.1 (fun i _ e=>?_))
  rcases e with e|e
  ·
   exact .inl e
  ·
   exact .inr (.inr e)
 ·
  rcases HN.out.2.2 i hi with e|e
  ·
   exact .inl e
  ·
   exact .inr (Nat.le_trans (Nat.le_trans HG.out.size K1.out.size) e)
theorem does_any {Y:Nat→Prop} {F P M:Nat} {R:Option Nat} {room:Int} {n:Nat} {D D':Option (List UInt8)} (kd at_:Int) (gd:Option Addr) (ld dd:Nat) (hn:n≤1000000) (w:World) (h:FsM Y w F P M R room n D)
  (hap:∀W,Gr w W→Calls Tryz.prog 83 #[.pointer (some ⟨F,0,none⟩), .agg #[.int .i64 kd, .string nmA, .int .i64 at_, .slice gd ld dd]] W fun e w'=>e= .returned (.tuple #[])∧FsM Y w' F P M R room n D'∧Kp (fun k=>k=M) W w') :
  Calls Tryz.prog 49 #[.pointer (some ⟨F,0,none⟩), .agg #[.int .i64 kd, .string nmA, .int .i64 at_, .slice gd ld dd]] w fun e w'=>e= .returned (.tuple #[])∧∃R',FsM Y w' F P M R' room (n+1) D'∧Kp (Tch P M R) w w'∧∀i,R'=some i→R=some i∨w.heap.size≤i:=by
 obtain ⟨v,xs,v1,v2,v3⟩:=h.p0
 exact (does_row kd at_ gd ld dd hn w h v xs v1 v3 hap).mono fun e w' q=>by
  obtain ⟨e1,R',q1,q2,q3, -⟩:=q
  exact ⟨e1,R',q1,q2,q3⟩
end
open Go.RowKit
theorem fresh_rb {B:Nat} {w':World} {v:Value} {l:List UInt8} (h:Lib.FreshBytes B w' v l) (h0:0<l.length):∃g cap,v= .slice (some ⟨g,0,none⟩) l.length cap∧B≤g∧l.length≤cap∧Rb w' (some ⟨g,0,none⟩) l:=by
 obtain ⟨g,cap,zs,rfl,hB,hc, -,hz,hzb,hb,hcell, -⟩:=h
 have hcl:∀i (hi:i<l.length),w'.cell? ⟨g,i,none⟩=some (.int .u8 (l[i].toNat:Int)):=fun i hi=>by
  have hzi:i<zs.length:=by omega
  have h1:=hcell i (by omega)
  have h2:=hzb zs[i] (List.getElem_mem hzi)
  have h3:l[i]?=some (UInt8.ofNat zs[i].toNat):=by
   rw[←hb,Lib.bytesOf,List.getElem?_map,List.getElem?_take_of_lt hi,List.getElem?_eq_getElem hzi]
   rfl
  rw[List.getElem?_eq_getElem hi] at h3
  injection h3 with h3
  rw[h1,h3,List.getD_eq_getElem?_getD,List.getElem?_eq_getElem hzi]
  have h4:zs[i].toNat<256:=by omega
  simp only[Option.getD_some,UInt8.toNat_ofNat']
  congr 2
  omega
 have hlt:g<w'.heap.size:=World.block_lt_of_cell? w' ⟨g,0,none⟩ (hcl 0 h0)
 refine ⟨g,cap,rfl,hB,hc,by rw[bys_length],fun _=>⟨_,rfl,hlt,fun j u hu=>?_⟩⟩
 have hj:j<l.length:=by
  have:=(List.getElem?_eq_some_iff.1 hu).1
  simpa [bys] using this
 rw[bys_at l j hj] at hu
 injection hu with hu
 rw[←hu,show (⟨g,0,none⟩:Addr).add j=⟨g,j,none⟩ by simp[Addr.add];omega]
 exact hcl j hj
def Pts (w:World) (b:Nat) (ls:List (List UInt8)):Prop:=∀k (h:k<ls.length),∃p c,w.cell? ⟨b,k,none⟩=some (.slice (some p) ls[k].length c)∧Rb w (some p) ls[k]
theorem Pts.gr {w w':World} {b:Nat} {ls:List (List UInt8)} (h:Pts w b ls) (g:Gr w w'):Pts w' b ls:=fun k hk=>by
 obtain ⟨p,c,h1,h2⟩:=h k hk
 exact ⟨p,c,(Below.cell g (p:=⟨b,k,none⟩) (World.block_lt_of_cell? w ⟨b,k,none⟩ h1)).trans h1,h2.gr g⟩
theorem join_nil:∀ls:List (List UInt8),Lib.join ls []=ls.flatten
 | []=>rfl
 | [a]=>by simp[Lib.join]
 | a::b::r=>by
  have:=join_nil (b::r)
  simp[Lib.join] at this ⊢
  rw[this]
theorem Rb.cells {w:World} {p:Addr} {l:List UInt8} (h:Rb w (some p) l) (i:Nat) (x:UInt8) (hx:l[i]?=some x):w.cell? (p.add i)=some (.int .u8 (x.toNat:Int)):=by
 obtain ⟨hi,rfl⟩:=List.getElem?_eq_some_iff.1 hx
 obtain ⟨ad,e, -,hc⟩:=h.2 (by omega)
 injection e with e
 subst e
 exact hc i _ (bys_at l i hi)
theorem join_one (b:Nat) (c:Nat) (l:List UInt8) (h0:0<l.length) (hl:l.length≤1073741824) (w:World) (h:Pts w b [l]):Calls Tryz.prog 50 #[.slice (some ⟨b,0,none⟩) 1 c, .slice none 0 0] w fun e w'=>∃g d,e= .returned (.slice (some ⟨g,0,none⟩) l.length d)∧w.heap.size≤g∧l.length≤d∧Rb w' (some ⟨g,0,none⟩) l∧Gr w w':=by
 obtain ⟨p,c0,h1,h2⟩:=h 0 (by simp)
 refine (Tryz.bytes_Join_one b 0 c p c0 l (.slice none 0 0) w h1 (fun i x hx=>h2.cells i x hx) h0 (by omega)).mono ?_
 rintro e w' ⟨v',rfl,hf,hg⟩
 obtain ⟨g,d,rfl,q1,q2,q3⟩:=fresh_rb hf h0
 exact ⟨g,d,rfl,q1,q2,q3,hg⟩
theorem join_two (b:Nat) (c:Nat) (l m:List UInt8) (h0:0<l.length) (hl:l.length+m.length≤1073741824) (hc:2≤c) (w:World) (h:Pts w b [l,m]):Calls Tryz.prog 50 #[.slice (some ⟨b,0,none⟩) 2 c, .slice none 0 0] w fun e w'=>∃g d,e= .returned (.slice (some ⟨g,0,none⟩) (l++m).length d)∧w.heap.size≤g∧(l++m).length≤d∧Rb w' (some ⟨g,0,none⟩) (l++m)∧Gr w w':=by
 obtain ⟨p,c0,h1,h2⟩:=h 0 (by simp)
 obtain ⟨q,c1,h3,h4⟩:=h 1 (by simp)
 have hP:Lib.PartsAt w ⟨b,0,none⟩ [.slice (some p) l.length c0, .slice (some q) m.length c1] [l,m]:=by
  refine ⟨rfl,fun i v hv=>?_,fun i v l' hv hl'=>?_⟩
  ·
   match i,hv with
   | 0,hv=>simp at hv;subst hv;exact h1
   | 1,hv=>simp at hv;subst hv;exact h3
   | i+2,hv=>simp at hv
  ·
   match i,hv,hl' with
   | 0,hv,hl'=>simp at hv hl';subst hv;subst hl';exact ⟨some p,c0,rfl,(fun e=>by cases e),(fun a e=>by injection e with e;subst e;exact fun i x hx=>h2.cells i x hx)⟩
   | 1,hv,hl'=>simp at hv hl';subst hv;subst hl';exact ⟨some q,c1,rfl,(fun e=>by cases e),(fun a e=>by injection e with e;subst e;exact fun i x hx=>h4.cells i x hx)⟩
   | i+2,hv,_=>simp at hv
 have hS:Lib.HoldsBytes w (.slice none 0 0) []:=⟨none,0,rfl,fun _=>rfl,fun a e=>by cases e⟩
 refine (Tryz.bytes_Join_many b 0 2 c _ [l,m] (.slice none 0 0) [] w rfl (by omega) hP hc hS (by omega) (by simp[Lib.lens];omega)).mono ?_
 rintro e w' ⟨v',rfl,hf,hg⟩
 rw[join_nil] at hf
 have e1:[l,m].flatten=l++m:=by simp
 rw[e1] at hf
 obtain ⟨g,d,rfl,q1,q2,q3⟩:=fresh_rb hf (by rw[List.length_append];omega)
 exact ⟨g,d,rfl,q1,q2,q3,hg⟩
section
open Go.RowKit Go.ChangeMaps Go.Maps
theorem writeAt_row {Y:Nat→Prop} {F P M:Nat} {R:Option Nat} {room:Int} {n:Nat} (l m:List UInt8) (o pb c:Nat) (hl:(l.length:Int)≤1073741824) (hm:0<m.length) (hom:o+m.length≤l.length) (hn:n≤1000000) (w:World) (h:FsM Y w F P M R room n (some l)) (v0:Value) (xs0:List Value) (hv0:w.cell? ⟨P,0,none⟩=some v0) (ho0:w.ownsRow 0 115 4 v0 n xs0) (hp:Pts w pb [m]) :
  Calls Tryz.prog 62 #[.pointer (some ⟨F,0,none⟩), .string nmA, .int .i64 o, .slice (some ⟨pb,0,none⟩) 1 c] w fun e w'=>e= .returned (.int .i64 0)∧∃R',FsM Y w' F P M R' room (n+1) (some (putB l o m))∧Kp (Tch P M R) w w'∧(∀i,R'=some i→R=some i∨w.heap.size≤i)∧∃g d,w.heap.size≤g∧g<w'.heap.size∧m.length≤d∧Rb w' (some ⟨g,0,none⟩) m∧(∃v',w'.cell? ⟨P,0,none⟩=some v'∧v'.ownBlock=R'∧w'.ownsRow 0 115 4 v' (n+1) (xs0++[.int .i64 1, .string nmA, .int .i64 o, .slice (some ⟨g,0,none⟩) m.length d]))∧w'.cell? ⟨P,1,none⟩=w.cell? ⟨P,1,none⟩:=by
 have H1:=Lib.hid (find_some w h)
 have H0:=Lib.hid h
 have HP:=Lib.hid hp
 have HT:=Lib.hid (total_any pb 0 1 c [m] rfl (by omega) (by simp;omega) w (fun k hk=>by obtain ⟨p,d,h1, -⟩:=hp k hk;exact ⟨some p,d,by rw[Nat.zero_add];exact h1⟩))
 have HJ:=Lib.hid (join_one pb c m hm (by omega) w hp)
 have hs:([m].map List.length).sum=m.length:=by simp
 have h1:¬(o:Int)<0:=by omega
 have h2:¬(l.length:Int)<(o:Int):=by omega
 have h3:¬(l.length:Int)-(o:Int)<(m.length:Int):=by omega
 have h4:IntKind.i64.wrap ((l.length:Int)-(o:Int))=(l.length:Int)-(o:Int):=IntWalk.i64_in _ (by omega)
 have h5:decide ((l.length:Int)-(o:Int)<(m.length:Int))=false:=decide_eq_false h3
 have h6:decide ((l.length:Int)<(o:Int))=false:=decide_eq_false h2
 have HO0:=Lib.hid (And.intro hv0 ho0)
 clear h hp hv0 ho0
 rw[hs] at HT
 clear hs
 go_enter Tryz.func62,Tryz.ntmps62
 go_wp2_with (first|(go_at_call 78;refine H1.out.mono ?_;rintro e w1 ⟨g,cc,rfl,rfl, -⟩)|(go_at_call 47;refine HT.out.mono ?_;rintro e w2 ⟨rfl,rfl⟩)|(go_at_call 50;refine HJ.out.mono ?_;rintro e w7 ⟨g7,d7,rfl,hg7,hd7,hr,gr7⟩;have HR:=Lib.hid hr;have HG7:=Lib.hid gr7;have HX7:=Lib.hid (And.intro hg7 hd7);clear hr gr7 hg7 hd7)|(go_at_call 49;refine (does_row 1 o (some ⟨g7,0,none⟩) m.length d7 hn _ (H0.out.gr HG7.out) v0 xs0 ((Below.cell HG7.out (p:=⟨P,0,none⟩) H0.out.lp).trans HO0.out.1) (own_grU HO0.out.2 HG7.out) (fun W gW=>applies_write l m o g7 d7 hl (by omega) hom W ((H0.out.gr HG7.out).gr gW) (HR.out.gr gW))).mono ?_;rintro e w8 ⟨rfl,R',hF,hK,hf,hv8,hp8⟩;have H8:=Lib.hid (And.intro hF (And.intro hK hf));have HV8:=Lib.hid (And.intro hv8 hp8);clear hF hK hf hv8 hp8))
 go_ret
 have hz7:g7<w7.heap.size:=by
  obtain ⟨ad,e,hb, -⟩:=HR.out.at hm
  injection e with e
  subst e
  exact hb
 have n7:¬Tch P M R g7:=fun e=>by
  rcases e with e|e|e
  ·
   have:=H0.out.lp;have:=HX7.out.1;omega
  ·
   have:=H0.out.lm;have:=HX7.out.1;omega
  ·
   obtain ⟨v,xs,a1,a2,a3⟩:=H0.out.p0
   have:=(a3.lt g7 (by rw[a2];exact e)).2
   have:=HX7.out.1
   omega
 refine ⟨rfl,_,H8.out.1,(Kp.of_gr (Tch P M R) HG7.out).trans H8.out.2.1 (fun _ _ e=>e),fun i hi=>?_,g7,d7,HX7.out.1,Nat.lt_of_lt_of_le hz7 H8.out.2.1.size,HX7.out.2,H8.out.2.1.rd HR.out (fun _ ad e=>by injection e with e;rw[←e];exact n7),HV8.out.1,HV8.out.2.trans (Below.cell HG7.out (p:=⟨P,1,none⟩) H0.out.lp)⟩
 rcases H8.out.2.2 i hi with e|e
 ·
  exact .inl e
 ·
  exact .inr (Nat.le_trans HG7.out.size e)
theorem writeAt_any {Y:Nat→Prop} {F P M:Nat} {R:Option Nat} {room:Int} {n:Nat} (l m:List UInt8) (o pb c:Nat) (hl:(l.length:Int)≤1073741824) (hm:0<m.length) (hom:o+m.length≤l.length) (hn:n≤1000000) (w:World) (h:FsM Y w F P M R room n (some l)) (hp:Pts w pb [m]) :
  Calls Tryz.prog 62 #[.pointer (some ⟨F,0,none⟩), .string nmA, .int .i64 o, .slice (some ⟨pb,0,none⟩) 1 c] w fun e w'=>e= .returned (.int .i64 0)∧∃R',FsM Y w' F P M R' room (n+1) (some (putB l o m))∧Kp (Tch P M R) w w'∧∀i,R'=some i→R=some i∨w.heap.size≤i:=by
 obtain ⟨v,xs,v1,v2,v3⟩:=h.p0
 exact (writeAt_row l m o pb c hl hm hom hn w h v xs v1 v3 hp).mono fun e w' q=>by
  obtain ⟨e1,R',q1,q2,q3, -⟩:=q
  exact ⟨e1,R',q1,q2,q3⟩
end
theorem hsize_any (ag xf:Int) (A:Option Addr) (c:Nat) (l:List (Int×Int)) (hll:l.length≤400) (w:World) (hr:Ri w A l):Calls Tryz.prog 32 #[.agg #[.int .i64 ag, .int .i64 xf, .slice A l.length c]] w fun e w'=>e= .returned (.int .i64 (bif mayH ag xf l then (sizeS (nats l):Nat) else 0))∧Gr w w':=by
 obtain ⟨V,hV⟩:∃V,V=w.alloc (.cells #[.int .i64 ag, .int .i64 xf, .slice A l.length c] 24):=⟨_,rfl⟩
 have gV:Gr w V:=by rw[hV];exact Gr.alloc (Gr.refl w) _
 have hz:w.heap.size<V.heap.size:=by rw[hV];simp
 have c0:V.cell? ⟨w.heap.size,0,none⟩=some (.int .i64 ag):=by rw[hV];go_simp
 have c1:V.cell? ⟨w.heap.size,1,none⟩=some (.int .i64 xf):=by rw[hV];go_simp
 have c2:V.cell? ⟨w.heap.size,2,none⟩=some (.slice A l.length c):=by rw[hV];go_simp
 have HV:=Lib.hid hV
 have HG:=Lib.hid gV
 have HR:=Lib.hid (hr.gr gV)
 have hck:=fun W (hW:Ri W A l)=>whead_check ag xf A c l hll W hW
 clear hV gV hr
 cases hM:mayH ag xf l
 ·
  rw[hM] at hck
  have HCK:=Lib.hid hck
  clear hck
  go_enter Tryz.func32,Tryz.ntmps32
  go_upto_region 1 with (fail)
  rw[←HV.out]
  clear HV
  go_wp2_with (go_at_call 67;refine (HCK.out _ HR.out).mono ?_;rintro e w1 ⟨rfl,g1⟩;have d0:=(Below.cell g1 (p:=⟨w.heap.size,0,none⟩) hz).trans c0;have d1:=(Below.cell g1 (p:=⟨w.heap.size,1,none⟩) hz).trans c1;have d2:=(Below.cell g1 (p:=⟨w.heap.size,2,none⟩) hz).trans c2;have hz1:=Nat.lt_of_lt_of_le hz g1.size;have HG1:=Lib.hid (HG.out.trans g1);have HR1:=Lib.hid (HR.out.gr g1);clear c0 c1 c2 hz g1 HG HR)
  go_ret
  exact ⟨rfl,HG1.out⟩
 ·
  rw[hM] at hck
  have HCK:=Lib.hid hck
  clear hck
  obtain ⟨m,rfl,hm,ha1,ha2,hx1,hx2⟩:=mayH_nat hM
  have hml:=ints_len m
  have hnm:=nats_ints m
  have hf:=mayS_facts hm
  have hcs:=fun W (hW:Ri W A (ints m))=>whead_size ag xf A c m hf.2.1 (fun a ha=>by obtain ⟨k,h,rfl⟩:=List.mem_iff_getElem.1 ha;exact (hf.2.2.2.2 k h).2.2.2) W hW
  rw[hnm]
  rw[←hml] at hcs
  have HCS:=Lib.hid hcs
  obtain ⟨S,hS⟩:∃S,S=sizeS m:=⟨_,rfl⟩
  rw[←hS] at HCS ⊢
  clear hcs hS hm hf hM hml hnm ha1 ha2 hx1 hx2
  generalize ints m=l at *
  go_enter Tryz.func32,Tryz.ntmps32
  go_upto_region 1 with (fail)
  rw[←HV.out]
  clear HV
  go_wp2_with (first|(go_at_call 67;refine (HCK.out _ HR.out).mono ?_;rintro e w1 ⟨rfl,g1⟩;have d0:=(Below.cell g1 (p:=⟨w.heap.size,0,none⟩) hz).trans c0;have d1:=(Below.cell g1 (p:=⟨w.heap.size,1,none⟩) hz).trans c1;have d2:=(Below.cell g1 (p:=⟨w.heap.size,2,none⟩) hz).trans c2;have hz1:=Nat.lt_of_lt_of_le hz g1.size;have HG1:=Lib.hid (HG.out.trans g1);have HR1:=Lib.hid (HR.out.gr g1);clear c0 c1 c2 hz g1 HG HR)|(go_at_call 70;refine (HCS.out _ HR1.out).mono ?_;rintro e w2 ⟨rfl,g2⟩;have G2:=Lib.hid (HG1.out.trans g2);clear g2 HG1))
  go_ret
  exact ⟨rfl,G2.out⟩
theorem span_any (ag xf:Int) (A:Option Addr) (c:Nat) (l:List (Int×Int)) (hll:l.length≤400) (w:World) (hr:Ri w A l):Calls Tryz.prog 68 #[.agg #[.int .i64 ag, .int .i64 xf, .slice A l.length c]] w fun e w'=>e= .returned (.int .i64 (bif mayH ag xf l then ((lastS (nats l)).1*(lastS (nats l)).2:Nat) else 0))∧Gr w w':=by
 obtain ⟨V,hV⟩:∃V,V=w.alloc (.cells #[.int .i64 ag, .int .i64 xf, .slice A l.length c] 24):=⟨_,rfl⟩
 have gV:Gr w V:=by rw[hV];exact Gr.alloc (Gr.refl w) _
 have hz:w.heap.size<V.heap.size:=by rw[hV];simp
 have c0:V.cell? ⟨w.heap.size,0,none⟩=some (.int .i64 ag):=by rw[hV];go_simp
 have c1:V.cell? ⟨w.heap.size,1,none⟩=some (.int .i64 xf):=by rw[hV];go_simp
 have c2:V.cell? ⟨w.heap.size,2,none⟩=some (.slice A l.length c):=by rw[hV];go_simp
 have HV:=Lib.hid hV
 have HG:=Lib.hid gV
 have HR:=Lib.hid (hr.gr gV)
 have hck:=fun W (hW:Ri W A l)=>whead_check ag xf A c l hll W hW
 clear hV gV hr
 cases hM:mayH ag xf l
 ·
  rw[hM] at hck
  have HCK:=Lib.hid hck
  clear hck
  go_enter Tryz.func68,Tryz.ntmps68
  go_upto_region 1 with (fail)
  rw[←HV.out]
  clear HV
  go_wp2_with (go_at_call 67;refine (HCK.out _ HR.out).mono ?_;rintro e w1 ⟨rfl,g1⟩;have d0:=(Below.cell g1 (p:=⟨w.heap.size,0,none⟩) hz).trans c0;have d1:=(Below.cell g1 (p:=⟨w.heap.size,1,none⟩) hz).trans c1;have d2:=(Below.cell g1 (p:=⟨w.heap.size,2,none⟩) hz).trans c2;have hz1:=Nat.lt_of_lt_of_le hz g1.size;have HG1:=Lib.hid (HG.out.trans g1);have HR1:=Lib.hid (HR.out.gr g1);clear c0 c1 c2 hz g1 HG HR)
  go_ret
  exact ⟨rfl,HG1.out⟩
 ·
  rw[hM] at hck
  have HCK:=Lib.hid hck
  clear hck
  obtain ⟨m,rfl,hm,ha1,ha2,hx1,hx2⟩:=mayH_nat hM
  have hml:=ints_len m
  have hnm:=nats_ints m
  have hf:=mayS_facts hm
  have hm0:0<(ints m).length:=by rw[hml];exact hf.1
  have hlast:lastS m=m[m.length-1]'(by have:=hf.1;omega):=lastS_at hf.1
  obtain ⟨k,hk⟩:∃k,m.length=k+1:=⟨m.length-1,by have:=hf.1;omega⟩
  obtain ⟨ad,rfl,hb,hc⟩:=HR.out hm0
  obtain ⟨p0,p1⟩:=hc k (by omega)
  rw[ints_at m k (by omega)] at p0 p1
  simp only at p0 p1
  have hfk:=hf.2.2.2.2 k (by omega)
  have hlk:lastS m=m[k]'(by omega):=by rw[hlast];congr 1;omega
  rw[hnm,hlk]
  obtain ⟨x1,hx1'⟩:∃x,x=(m[k]'(by omega)).1:=⟨_,rfl⟩
  obtain ⟨x2,hx2'⟩:∃x,x=(m[k]'(by omega)).2:=⟨_,rfl⟩
  rw[←hx1'] at p0 hfk ⊢
  rw[←hx2'] at p1 hfk ⊢
  have hw:=prod_small (x1:Int) x2 (by omega) (by omega) (by omega) (by omega)
  have hki:(k:Int)≤400:=by omega
  have zk:IntKind.i64.wrap (k:Int)=(k:Int):=IntWalk.i64_in (k:Int) (by omega)
  have hlk1:(ints m).length=k+1:=by omega
  have HB:=Lib.hid (And.intro hb (And.intro p0 p1))
  rw[hlk1] at c2 HCK HV ⊢
  clear hx1' hx2' hlast hlk hm hM hml hnm ha1 ha2 hx1 hx2 hf hfk hc hm0 hb p0 p1 hll hk
  go_enter Tryz.func68,Tryz.ntmps68
  go_upto_region 1 with (fail)
  rw[←HV.out]
  clear HV
  go_wp2_with (go_at_call 67;refine (HCK.out _ HR.out).mono ?_;rintro e w1 ⟨rfl,g1⟩;have d0:=(Below.cell g1 (p:=⟨w.heap.size,0,none⟩) hz).trans c0;have d1:=(Below.cell g1 (p:=⟨w.heap.size,1,none⟩) hz).trans c1;have d2:=(Below.cell g1 (p:=⟨w.heap.size,2,none⟩) hz).trans c2;have hz1:=Nat.lt_of_lt_of_le hz g1.size;have HG1:=Lib.hid (HG.out.trans g1);have HR1:=Lib.hid (HR.out.gr g1);have HGV:=Lib.hid g1;clear c0 c1 c2 hz g1 HG HR;obtain ⟨hb,p0,p1⟩:=HB.out;have q0:=(Below.cell HGV.out (p:=ad.add (k*2)) (by rw[adB];exact hb)).trans p0;have q1:=(Below.cell HGV.out (p:=⟨(ad.add (k*2)).block,(ad.add (k*2)).off+1,none⟩) (by show (ad.add (k*2)).block<_;rw[adB];exact hb)).trans p1;clear hb p0 p1 HB HGV)
  go_ret
  exact ⟨ret_i (by go_num),gq⟩
theorem info_u8:(Tryz.prog.info? 5).map (fun i=>(i.zero,i.size,i.bytes))=some (some (.int .u8 0),1,1):=by kernel_rfl
structure Btw (w:World) (B:Nat) (A:Option Addr) (c:Nat) (l:List UInt8):Prop where
 lt:B<w.heap.size
 c0:w.cell? ⟨B,0,none⟩=some (.slice A l.length c)
 f0:w.frozen? ⟨B,0,none⟩=false
 own:w.ownsRow (B+1) 5 1 (.slice A l.length c) l.length (bys l)
def RetBt (w:World) (B:Nat) (A:Option Addr) (l:List UInt8) (e:Ending) (w':World):Prop:=
 e= .returned (.tuple #[])∧∃A' c',Btw w' B A' c' l∧Kp (fun k=>k=B∨blkA A=some k) w w'∧(∀k,blkA A'=some k→blkA A=some k∨w.heap.size≤k)∧∀o,o≠0→w'.cell? ⟨B,o,none⟩=w.cell? ⟨B,o,none⟩
theorem beB_take (n many j:Nat) (h:j<many):(beB n many).take (many-j)=(beB n many).take (many-(j+1))++[(n/256^j%256).toUInt8]:=by
 induction many with
 | zero=>omega
 | succ k ih=>
  rcases Nat.lt_or_ge j k with h1|h1
  ·
   rw[beB,show k+1-j=(k-j)+1 by omega,show k+1-(j+1)=(k-(j+1))+1 by omega,List.take_succ_cons,List.take_succ_cons,ih h1]
   rfl
  ·
   have:j=k:=by omega
   subst this
   rw[beB,show j+1-j=0+1 by omega,Nat.sub_self,List.take_succ_cons,List.take_zero,List.take_zero]
   rfl
theorem Btw.laid {w V w9:World} {B:Nat} {A A9:Option Addr} {c c9:Nat} {l:List UInt8} {d:UInt8} (h:Btw w B A c l) (gV:Gr w V) (own9:w9.ownsRow (B+1) 5 1 (.slice A9 (l.length+1) c9) (l.length+1) (bys (l++[d]))) (hgr:V.grownBy w9 (blkA A)) (hob:blkA A9=blkA A∨blkA A9=some V.heap.size) :
  Btw (w9.setCell ⟨B,0,none⟩ (.slice A9 (l.length+1) c9)) B A9 c9 (l++[d])∧Kp (fun k=>k=B∨blkA A=some k) w (w9.setCell ⟨B,0,none⟩ (.slice A9 (l.length+1) c9))∧(∀k,blkA A9=some k→blkA A=some k∨w.heap.size≤k)∧∀o,o≠0→(w9.setCell ⟨B,0,none⟩ (.slice A9 (l.length+1) c9)).cell? ⟨B,o,none⟩=w.cell? ⟨B,o,none⟩:=by
 have hrow:∀k,blkA A=some k→B<k∧k<w.heap.size:=fun k hk=>by
  have:=h.own.lt k (by rw[own_blkA];exact hk);omega
 have hRA:some B≠blkA A:=fun e=>by have:=(hrow B e.symm).1;omega
 have hR9:w9.heap[B]?=w.heap[B]?:=(hgr.block B (Nat.lt_of_lt_of_le h.lt gV.size) hRA).trans (Below.block gV B h.lt)
 have hlen:(l++[d]).length=l.length+1:=by simp
 refine ⟨⟨by have:=hgr.size;have:=gV.size;have:=h.lt;simp;omega,?_,by rw[World.frozen?_setCell];exact (World.frozen?_of_block (a:=⟨B,0,none⟩) hR9).trans h.f0,?_⟩,?_,fun k hk=>?_,fun o ho=>?_⟩
 ·
  rw[hlen]
  exact World.cell?_setCell_same' _ _ _ (by rw[(World.cell?_of_block (a:=⟨B,0,none⟩) hR9).trans h.c0];rfl)
 ·
  rw[hlen]
  exact own_setU own9 (p:=⟨B,0,none⟩) (Nat.lt_succ_self _) _
 ·
  exact (((Kp.of_gr _ gV).grown hgr (fun k hk=> .inl (.inr hk))).set (p:=⟨B,0,none⟩) (.inl (.inl rfl)) _)
 ·
  rcases hob with e|e
  ·
   exact .inl (e▸hk)
  ·
   rw[e] at hk
   injection hk with hk
   exact .inr (by have:=gV.size;omega)
 ·
  exact (World.cell?_setCell_other w9 ⟨B,0,none⟩ ⟨B,o,none⟩ _ (by first|(simp;done)|(simp;omega))).trans (World.cell?_of_block (a:=⟨B,o,none⟩) hR9)
def LyB (B:Nat) (A:Option Addr) (L c:Nat) (W:World):Prop:=W.cell? ⟨B,0,none⟩=some (.slice A L c)∧W.frozen? ⟨B,0,none⟩=false∧B<W.heap.size
theorem Btw.gr {w w':World} {B:Nat} {A:Option Addr} {c:Nat} {l:List UInt8} (h:Btw w B A c l) (g:Gr w w'):Btw w' B A c l:=
 ⟨Nat.lt_of_lt_of_le h.lt g.size,(Below.cell g (p:=⟨B,0,none⟩) h.lt).trans h.c0,(Below.frozen g (p:=⟨B,0,none⟩) h.lt).trans h.f0,own_grU h.own g⟩
theorem LyB.kept {B L c:Nat} {A:Option Addr} {W W':World} (h:LyB B A L c W) (hs:W.heap.size≤W'.heap.size) (hR:W'.heap[B]?=W.heap[B]?):LyB B A L c W':=
 ⟨(World.cell?_of_block (a:=⟨B,0,none⟩) hR).trans h.1,(World.frozen?_of_block (a:=⟨B,0,none⟩) hR).trans h.2.1,Nat.lt_of_lt_of_le h.2.2 hs⟩
theorem LyB.gr {B L c:Nat} {A:Option Addr} {W W':World} (h:LyB B A L c W) (g:Gr W W'):LyB B A L c W':=h.kept g.size (Below.block g B h.2.2)
theorem lays_any (B:Nat) (n many:Nat) (hn:(n:Int)≤18446744073709551615) (hm:(many:Int)≤8) (A:Option Addr) (c:Nat) (l:List UInt8) (hl:l.length≤100) (w:World) (h:Btw w B A c l) :
  Calls Tryz.prog 121 #[.pointer (some ⟨B,0,none⟩), .int .u64 (n:Nat), .int .i64 (many:Nat)] w (RetBt w B A (l++beB n many)):=by
 obtain ⟨i0,hi0,hz0,hz1,hz2⟩:=info_parts info_u8
 have Hh:=Lib.hid h
 clear h
 go_enter Tryz.func121,Tryz.ntmps121
 go_wp2
 go_loopw [6] (fun i wr=>∃(k:Nat) (A':Option Addr) (c':Nat),k≤many∧i= .int .i64 ((k:Int)-1)∧Btw wr B A' c' (l++(beB n many).take (many-k))∧Kp (fun k=>k=B∨blkA A=some k) w wr∧(∀k,blkA A'=some k→blkA A=some k∨w.heap.size≤k)∧∀o,o≠0→wr.cell? ⟨B,o,none⟩=w.cell? ⟨B,o,none⟩) (fun i _=>(intOf i+1).toNat)
 case atStart=>exact ⟨many,A,c,Nat.le_refl _,rfl,by simpa using Hh.out,Kp.refl _ _,fun k hk=> .inl hk,fun _ _=>rfl⟩
 case round=>
  obtain ⟨k,A',c',hk,rfl,hB,hK,hA,hO⟩:=hrel
  by_cases h0:k=0
  ·
   subst h0
   have HX:Hid (Btw wr B A' c' (l++beB n many)):=Lib.hid (by
    have:=hB
    rwa [Nat.sub_zero,List.take_of_length_le (by rw[beB_len];exact Nat.le_refl _)] at this)
   have HK:=Lib.hid (And.intro hK (And.intro hA hO))
   clear hB hK hA hO
   go_wp2
   go_end0
   exact ⟨rfl,A',c',HX.out,HK.out.1,HK.out.2⟩
  ·
   obtain ⟨j,rfl⟩:∃j,k=j+1:=⟨k-1,by omega⟩
   have hj:((j+1:Nat):Int)-1=j:=by omega
   rw[hj]
   have hj8:(j:Int)<8:=by omega
   have HK:=Lib.hid (And.intro hK (And.intro hA hO))
   have HB:=Lib.hid hB
   obtain ⟨m,hmm⟩:∃m,m=l++(beB n many).take (many-(j+1)):=⟨_,rfl⟩
   rw[←hmm] at hB
   have hml:m.length≤108:=by
    rw[hmm,List.length_append,List.length_take,beB_len];omega
   have hS0:LyB B A' m.length c' wr.drew:=⟨hB.c0,hB.f0,hB.lt⟩
   have own7:=hB.own
   have hvl:=own7.lt
   have Hm:=Lib.hid hmm
   have h8:IntKind.i64.wrap (8*(j:Int))=8*(j:Int):=IntWalk.i64_in _ (by omega)
   obtain ⟨Q,hQ⟩:∃Q,Q=n/256^j:=⟨_,rfl⟩
   obtain ⟨d,hd⟩:∃d:UInt8,d=(Q%256).toUInt8:=⟨_,rfl⟩
   have hcv:IntKind.u8.wrap ((n:Int)/2^(8*(j:Int)).toNat)=(d.toNat:Int):=by
    have e:(8*(j:Int)).toNat=8*j:=by omega
    have e2:(n:Int)/2^(8*j)=(Q:Int):=by
     rw[hQ]
     rw[show (256:Nat)^j=2^(8*j) from by rw[Nat.pow_mul]]
     simp
    rw[e,e2,hd,toNat_mod,IntKind.wrap_u8]
    simp
   have HQ:=Lib.hid (And.intro hQ hd)
   clear hB hK hA hO hmm hQ hd
   go_upto_region 3 with (fail)
   refine wp_region_Z 14 (LyB B A' m.length c') (by kernel_rfl) ?_
   obtain ⟨V,hV⟩:∃V,V=wr.drew:=⟨_,rfl⟩
   rw[←hV] at hS0 ⊢
   have HV:=Lib.hid hV
   clear hV
   refine zu 0 rfl hS0 (fun W hS=>by go_simp;rfl) ?_
   refine zu 1 rfl hS0 (fun W hS=>by go_simp;rfl) ?_
   refine zu 2 rfl hS0 (fun W hS=>by go_simp;rfl) ?_
   refine zu 3 rfl hS0 (fun W hS=>by go_simp;rfl) ?_
   refine zu 4 rfl hS0 (fun W hS=>by obtain ⟨s0, -⟩:=hS;go_simp;rfl) ?_
   refine zu 5 rfl hS0 (fun W hS=>by go_simp;rfl) ?_
   refine zu 6 rfl hS0 (fun W hS=>by go_simp;rfl) ?_
   refine zu 7 rfl hS0 (fun W hS=>by go_simp;rfl) ?_
   refine zu 8 rfl hS0 (fun W hS=>by go_simp;rfl) ?_
   refine zu 9 rfl hS0 (fun W hS=>by go_simp;rfl) ?_
   refine wpAnyZ_ready (rs:=[10]) (by kernel_rfl) (by simp) ?_
   refine AllReadyZ.cons (i:=10) rfl (by kernel_rfl) ?zx10 AllReadyZ.nil
   intro K hK
   simp only[List.getElem_toArray,List.getElem_cons_succ,List.getElem_cons_zero]
   have hS7:=hS0.gr (Gr.alloc (Gr.refl _) (.cells #[.int .u8 (d.toNat:Int)] 5))
   have ownV:V.ownsRow (B+1) 5 1 (.slice A' m.length c') m.length (bys m):=by rw[HV.out];exact own7
   have own8:=ownV.alloc (.cells #[.int .u8 (d.toNat:Int)] 5)
   have hrx:Rd (V.alloc (.cells #[.int .u8 (d.toNat:Int)] 5)) 1 (some ⟨V.heap.size,0,none⟩) 1 (bys [d]):=Rd.newU (W:=V) rfl 5 (bys [d]) rfl
   clear ownV own7
   go_simp
   refine hK.out _ _ (fun hnz=>?zs10) (fun _=>?zr10)
   case zs10=>exact hS7
   clear hK K
   try (simp only[Pu,List.getElem_toArray,List.getElem_cons_succ,List.getElem_cons_zero])
   refine wpAnyZ_ready (rs:=[11]) (by kernel_rfl) (by simp) ?_
   refine AllReadyZ.cons (i:=11) rfl (by kernel_rfl) ?zx11 AllReadyZ.nil
   intro K hK
   simp only[List.getElem_toArray,List.getElem_cons_succ,List.getElem_cons_zero]
   refine wp_append_rd0 (.tmp 17) (.tmp 23) 49 rfl (B+1) 5 i0 _ 1 1 Tryz.underlying49 hi0 hz0 hz1 hz2 rfl (by decide) _ m.length _ rfl own8 (some ⟨V.heap.size,0,none⟩) 1 _ (bys [d]) rfl hrx (bys_one _) (by unfold maxLen;omega) (by omega) (by have:=hS0.2.2;simp;omega) ?_
   intro v' w9 own9 hgr9 hob9
   obtain ⟨A9,c9,hv9⟩:=own_form own9
   subst hv9
   have hgr9:(V.alloc (.cells #[.int .u8 (d.toNat:Int)] 5)).grownBy w9 (Value.slice A' m.length c').ownBlock:=hgr9
   have hob9:(Value.slice A9 (m.length+1) c9).ownBlock=(Value.slice A' m.length c').ownBlock∨(Value.slice A9 (m.length+1) c9).ownBlock=some (V.alloc (.cells #[.int .u8 (d.toNat:Int)] 5)).heap.size:=hob9
   rw[own_blkA] at hgr9
   rw[own_blkA,own_blkA] at hob9
   have hS9:LyB B A' m.length c' w9:=hS7.kept hgr9.size (hgr9.block B hS7.2.2 (fun e=>by have:=(hvl B (by rw[own_blkA];exact e.symm)).1;omega))
   have Hg9:=Lib.hid (And.intro own9 (And.intro hgr9 hob9))
   clear own9 hgr9 hob9 hS7 own8 hrx
   refine hK.out _ _ (fun hnz=>?zs11) (fun _=>?zr11)
   case zs11=>exact hS9
   clear hK K
   try (simp only[Pu,List.getElem_toArray,List.getElem_cons_succ,List.getElem_cons_zero])
   refine wpAnyZ_ready (rs:=[12]) (by kernel_rfl) (by simp) ?_
   refine AllReadyZ.cons (i:=12) rfl (by kernel_rfl) ?zx12 AllReadyZ.nil
   intro K hK
   simp only[List.getElem_toArray,List.getElem_cons_succ,List.getElem_cons_zero]
   go_simp
   refine hK.out _ _ (fun hnz=>?zs12) (fun _=>?zr12)
   case zs12=>exact hS9
   clear hK K
   try (simp only[Pu,List.getElem_toArray,List.getElem_cons_succ,List.getElem_cons_zero])
   refine wpAnyZ_ready (rs:=[13]) (by kernel_rfl) (by simp) ?_
   refine AllReadyZ.cons (i:=13) rfl (by kernel_rfl) ?zx13 AllReadyZ.nil
   intro K hK
   simp only[List.getElem_toArray,List.getElem_cons_succ,List.getElem_cons_zero]
   go_simp
   refine hK.out _ _ (fun hnz=>?zs13) (fun _=>?zr13)
   case zs13=>exact hS9
   clear hK K
   try (simp only[Pu,List.getElem_toArray,List.getElem_cons_succ,List.getElem_cons_zero])
   refine wpAnyZ_ready (rs:=[14]) (by kernel_rfl) (by simp) ?_
   refine AllReadyZ.cons (i:=14) rfl (by kernel_rfl) ?zx14 AllReadyZ.nil
   intro K hK
   simp only[List.getElem_toArray,List.getElem_cons_succ,List.getElem_cons_zero]
   obtain ⟨s0,s1,hzR⟩:=id hS9
   go_simp
   refine hK.out _ _ (fun hnz=>?zs14) (fun _=>?zr14)
   case zs14=>exact absurd rfl hnz
   clear hK K
   try (simp only[Pu,List.getElem_toArray,List.getElem_cons_succ,List.getElem_cons_zero])
   refine wpAnyZ_done (by kernel_rfl) ?_ _
   obtain ⟨own9,hgr9,hob9⟩:=Hg9.out
   obtain ⟨f1,f2,f3,f4⟩:=(show Btw wr B A' c' m by rw[Hm.out];exact HB.out).laid (d:=d) (show Gr wr _ by rw[HV.out];exact (Gr.drew (Gr.refl wr)).alloc _) (by rw[bys_append];exact own9) hgr9 hob9
   have HF:=Lib.hid (And.intro f1 (And.intro f2 (And.intro f3 f4)))
   generalize w9.setCell ⟨B,0,none⟩ (.slice A9 (m.length+1) c9)=w10 at HF ⊢
   clear f1 f2 f3 f4 own9 hgr9 hob9 Hg9 hS9 s1 s0
   have HN:Hid (m++[d]=l++(beB n many).take (many-j)):=Lib.hid (by
    rw[Hm.out,HQ.out.2,HQ.out.1,beB_take n many j (by omega),List.append_assoc])
   go_wp2
   go_roundw
   case rel=>
    refine ⟨j,A9,c9,by omega,rfl,by rw[←HN.out];exact HF.out.1,HK.out.1.trans HF.out.2.1 (fun i hi hs=>?_),fun k hk=>?_,fun o ho=>(HF.out.2.2.2 o ho).trans (HK.out.2.2 o ho)⟩
    ·
     rcases hs with h|h
     ·
      exact .inl h
     ·
      rcases HK.out.2.1 i h with h2|h2
      ·
       exact .inr h2
      ·
       omega
    ·
     rcases HF.out.2.2.1 k hk with h|h
     ·
      exact HK.out.2.1 k h
     ·
      exact .inr (Nat.le_trans HK.out.1.size h)
   case measure=>simp[intOf]
theorem at_any (B:Nat) (t:Int) (w:World) (c1:w.cell? ⟨B,1,none⟩=some (.int .i64 t)):Calls Tryz.prog 122 #[.pointer (some ⟨B,0,none⟩)] w fun e w'=>e= .returned (.int .u64 (at4 t:Nat))∧w=w':=by
 have e1:((at4 t:Nat):Int)=max 0 (min t 4294967295):=by unfold at4;omega
 by_cases h1:t≤4294967295
 ·
  by_cases h2:0<t
  ·
   have e3:((at4 t:Nat):Int)=t:=by omega
   have e2:IntKind.u64.wrap t=t:=by rw[IntKind.wrap_u64];omega
   rw[e3]
   clear e1 e3
   go_enter Tryz.func122,Tryz.ntmps122
   go_wp2
   go_ret
   exact ⟨by first|rfl|(show Ending.returned (Value.int .u64 (max 0 (min t 4294967295)))=_;rw[show max 0 (min t 4294967295)=t by omega]),rfl⟩
  ·
   have e3:((at4 t:Nat):Int)=0:=by omega
   rw[e3]
   clear e1 e3
   go_enter Tryz.func122,Tryz.ntmps122
   go_wp2
   go_ret
   exact ⟨by first|rfl|(show Ending.returned (Value.int .u64 (max 0 (min t 4294967295)))=_;rw[show max 0 (min t 4294967295)=0 by omega]),rfl⟩
 ·
  have e3:((at4 t:Nat):Int)=4294967295:=by omega
  rw[e3]
  clear e1 e3
  go_enter Tryz.func122,Tryz.ntmps122
  go_wp2
  go_ret
  exact ⟨by first|rfl|(show Ending.returned (Value.int .u64 (max 0 (min t 4294967295)))=_;rw[show max 0 (min t 4294967295)=4294967295 by omega]),rfl⟩
theorem own_capA {w:World} {base:Nat} {e:TypeId} {size n c:Nat} {A:Option Addr} {xs:List Value} (h:w.ownsRow base e size (.slice A n c) n xs):n≤c:=by
 obtain ⟨h1,⟨hv,h0⟩|⟨g',cap,cur,hv,hb,hh,h2,h3⟩⟩:=h
 ·
  injection hv with _ _ h3
  omega
 ·
  injection hv with _ _ h4
  rw[h4];exact h2
def EnS (B:Nat) (t n:Int) (W:World):Prop:=W.cell? ⟨B,1,none⟩=some (.int .i64 t)∧W.cell? ⟨B,2,none⟩=some (.int .i64 n)∧B<W.heap.size
theorem EnS.gr {B:Nat} {t n:Int} {W W':World} (h:EnS B t n W) (g:Gr W W'):EnS B t n W':=
 ⟨(Below.cell g (p:=⟨B,1,none⟩) h.2.2).trans h.1,(Below.cell g (p:=⟨B,2,none⟩) h.2.2).trans h.2.1,Nat.lt_of_lt_of_le h.2.2 g.size⟩
def RetBs (l:List UInt8) (w:World) (e:Ending) (w':World):Prop:=∃A c,e= .returned (.slice A l.length c)∧l.length≤c∧Rb w' A l∧Gr w w'∧∀ad,A=some ad→w.heap.size≤ad.block
theorem encode_any (t n:Int) (w:World):Calls Tryz.prog 112 #[.agg #[.int .i64 t, .int .i64 n]] w (RetBs (encP t n) w):=by
 obtain ⟨V,hV⟩:∃V,V=(w.alloc (.cells #[.int .i64 t, .int .i64 n] 54)).alloc (.cells #[.slice none 0 0, .int .i64 t, .int .i64 n] 177):=⟨_,rfl⟩
 have gV:Gr w V:=by rw[hV];exact Gr.alloc (Gr.alloc (Gr.refl w) _) _
 have hz:V.heap.size=w.heap.size+2:=by rw[hV];simp
 have b0:Btw V (w.heap.size+1) none 0 []:=⟨by omega,by rw[hV];go_simp,by rw[hV];go_simp,World.ownsRow_nil _ _ _ _⟩
 have e0:EnS (w.heap.size+1) t n V:=⟨by rw[hV];go_simp,by rw[hV];go_simp,by omega⟩
 have HV:=Lib.hid hV
 have GV:=Lib.hid gV
 have HB:=Lib.hid b0
 have h5:(at4 t:Int)≤18446744073709551615:=by have:at4 t<4294967296:=(by unfold at4;omega);omega
 have h6:(u64 n:Int)≤18446744073709551615:=by have:=u64_lt n;omega
 have HL1:=Lib.hid (fun W (hB:Btw W (w.heap.size+1) none 0 [])=>lays_any (w.heap.size+1) (at4 t) 4 h5 (by omega) none 0 [] (by decide) W hB)
 have hw6:IntKind.u64.wrap n=(u64 n:Nat):=by rw[IntKind.wrap_u64];unfold u64;omega
 clear hV gV b0 h5
 go_enter Tryz.func112,Tryz.ntmps112
 go_upto_region 2 with (fail)
 rw[←HV.out]
 clear HV
 refine wp_region_Z 5 (EnS (w.heap.size+1) t n) (by kernel_rfl) ?_
 obtain ⟨V1,hV1⟩:∃V1,V1=V.drew:=⟨_,rfl⟩
 have g1:Gr V V1:=by rw[hV1];exact Gr.drew (Gr.refl V)
 have hS0:=e0.gr g1
 have HB1:Hid (Btw V1 (w.heap.size+1) none 0 []):=Lib.hid (HB.out.gr g1)
 have G1:=Lib.hid (GV.out.trans g1)
 rw[←hV1]
 clear hV1 g1 e0 HB GV hz
 refine zu 0 rfl hS0 (fun W hS=>by go_simp;rfl) ?_
 refine zu 1 rfl hS0 (fun W hS=>by go_simp;rfl) ?_
 refine zu 2 rfl hS0 (fun W hS=>by go_simp;rfl) ?_
 refine zu 3 rfl hS0 (fun W hS=>by go_simp;rfl) ?_
 refine wpAnyZ_ready (rs:=[4]) (by kernel_rfl) (by simp) ?_
 refine AllReadyZ.cons (i:=4) rfl (by kernel_rfl) ?zx4 AllReadyZ.nil
 intro K hK
 simp only[List.getElem_toArray,List.getElem_cons_succ,List.getElem_cons_zero]
 go_simp
 refine (at_any _ t _ hS0.1).mono ?_;rintro x w2 ⟨rfl,rfl⟩
 go_wp2_with fail
 refine hK.out _ _ (fun hnz=>?zs4) (fun _=>?zr4)
 case zs4=>exact hS0
 clear hK K
 try (simp only[Pu,List.getElem_toArray,List.getElem_cons_succ,List.getElem_cons_zero])
 refine wpAnyZ_ready (rs:=[5]) (by kernel_rfl) (by simp) ?_
 refine AllReadyZ.cons (i:=5) rfl (by kernel_rfl) ?zx5 AllReadyZ.nil
 intro K hK
 simp only[List.getElem_toArray,List.getElem_cons_succ,List.getElem_cons_zero]
 go_simp
 refine (HL1.out _ HB1.out).mono ?_;rintro x w3 ⟨rfl,A3,c3,hB3,hK3,hR3,hO3⟩
 have e3:EnS (w.heap.size+1) t n w3:=⟨(hO3 1 (by decide)).trans hS0.1,(hO3 2 (by decide)).trans hS0.2.1,Nat.lt_of_lt_of_le hS0.2.2 hK3.size⟩
 have H3:=Lib.hid (And.intro hB3 (And.intro hK3 hR3))
 clear hB3 hK3 hR3 hO3
 go_wp2_with fail
 refine hK.out _ _ (fun hnz=>?zs5) (fun _=>?zr5)
 case zs5=>exact absurd rfl hnz
 clear hK K
 try (simp only[Pu,List.getElem_toArray,List.getElem_cons_succ,List.getElem_cons_zero])
 refine wpAnyZ_done (by kernel_rfl) ?_ _
 rw[List.nil_append] at H3
 have HL2:=Lib.hid (fun W (hB:Btw W (w.heap.size+1) A3 c3 (beB (at4 t) 4))=>lays_any (w.heap.size+1) (u64 n) 8 h6 (by omega) A3 c3 (beB (at4 t) 4) (by rw[beB_len];omega) W hB)
 clear hS0
 go_upto_region 3 with (fail)
 refine wp_region_Z 9 (EnS (w.heap.size+1) t n) (by kernel_rfl) ?_
 obtain ⟨V4,hV4⟩:∃V4,V4=w3.drew:=⟨_,rfl⟩
 have g4:Gr w3 V4:=by rw[hV4];exact Gr.drew (Gr.refl w3)
 have hS4:=e3.gr g4
 have HB4:=Lib.hid (H3.out.1.gr g4)
 have G4:=Lib.hid g4
 rw[←hV4]
 clear hV4 g4 e3
 refine zu 0 rfl hS4 (fun W hS=>by go_simp;rfl) ?_
 refine zu 1 rfl hS4 (fun W hS=>by go_simp;rfl) ?_
 refine zu 2 rfl hS4 (fun W hS=>by go_simp;rfl) ?_
 refine zu 3 rfl hS4 (fun W hS=>by go_simp;rfl) ?_
 refine zu 4 rfl hS4 (fun W hS=>by go_simp;rfl) ?_
 refine zu 5 rfl hS4 (fun W hS=>by go_simp;rfl) ?_
 refine zu 6 rfl hS4 (fun W hS=>by go_simp;rfl) ?_
 refine zu 7 rfl hS4 (fun W hS=>by obtain ⟨-,s1, -⟩:=hS;go_simp;rfl) ?_
 refine zu 8 rfl hS4 (fun W hS=>by go_simp;rfl) ?_
 refine wpAnyZ_ready (rs:=[9]) (by kernel_rfl) (by simp) ?_
 refine AllReadyZ.cons (i:=9) rfl (by kernel_rfl) ?zy9 AllReadyZ.nil
 intro K hK
 simp only[List.getElem_toArray,List.getElem_cons_succ,List.getElem_cons_zero]
 go_simp
 refine (HL2.out _ HB4.out).mono ?_;rintro x w5 ⟨rfl,A5,c5,hB5,hK5,hR5,hO5⟩
 have c0:=hB5.c0
 have H5:=Lib.hid (And.intro hB5 (And.intro hK5 hR5))
 clear hB5 hK5 hR5 hO5
 go_wp2_with fail
 refine hK.out _ _ (fun hnz=>?zt9) (fun _=>?zq9)
 case zt9=>exact absurd rfl hnz
 clear hK K
 try (simp only[Pu,List.getElem_toArray,List.getElem_cons_succ,List.getElem_cons_zero])
 refine wpAnyZ_done (by kernel_rfl) ?_ _
 have hlt5:w.heap.size+1<w5.heap.size:=H5.out.1.lt
 clear hS4
 go_wp2
 go_ret
 have hle:=own_capA H5.out.1.own
 refine ⟨A5,c5,rfl,hle,Rb.own H5.out.1.own,?_,fun ad e=>?_⟩
 ·
  exact ((Kp.of_gr (fun _=>False) G1.out).trans (S2:=fun k=>w.heap.size≤k) ((H3.out.2.1.trans (Kp.of_gr (fun _=>False) G4.out) (fun _ _ h=>h.elim)).mono fun i _ hs=>by
   rcases hs with h|h
   ·
    omega
   ·
    cases h) (fun i hi h=>by omega)).trans (S2:=fun k=>w.heap.size≤k) (H5.out.2.1.mono fun i _ hs=>by
   rcases hs with h|h
   ·
    omega
   ·
    rcases H3.out.2.2 i h with h2|h2
    ·
     cases h2
    ·
     have:=G1.out.size;omega) (fun i hi h=>by omega) |>.gr (fun k _ h=>h)
 ·
  have:=(H5.out.1.own.lt ad.block (by rw[e];rfl)).1
  omega
def RetNm (base k:Nat) (l:List UInt8) (n:Nat) (v:Value) (w:World) (e:Ending) (w':World):Prop:=
 ∃v',e= .returned v'∧w'.ownsRow base 5 1 v' (k+4) (bys (l++beB n 4))∧Kp (fun b=>v.ownBlock=some b) w w'∧∀b,v'.ownBlock=some b→v.ownBlock=some b∨w.heap.size≤b
theorem four_bytes (n:Nat) (hn:(n:Int)≤4294967295):bys (beB n 4)=[.int .u8 ((n:Int)/16777216), .int .u8 ((n:Int)/65536%256), .int .u8 ((n:Int)/256%256), .int .u8 ((n:Int)%256)]:=by
 simp only[bys,beB,List.map_cons,List.map_nil,toNat_mod]
 rw[show n/256^3%256=n/16777216 by omega,show n/256^2%256=n/65536%256 by omega,show n/256^1%256=n/256%256 by omega,show n/256^0%256=n%256 by omega]
 rfl
theorem number_any (n:Nat) (hn:(n:Int)≤4294967295) (base k:Nat) (v:Value) (l:List UInt8) (hk:k≤1000) (w:World) (ho:w.ownsRow base 5 1 v k (bys l)) (hbs:base≤w.heap.size) :
  Calls Tryz.prog 69 #[v, .int .i64 n] w (RetNm base k l n v w):=by
 obtain ⟨i0,hi0,hz0,hz1,hz2⟩:=info_parts info_u8
 have HO:=Lib.hid ho
 have HB:=Lib.hid hbs
 clear ho hbs
 go_enter Tryz.func69,Tryz.ntmps69
 go_wp2_with (at_builtin;refine wpList_append_rd rfl (.tmp 5) (.tmp 17) 49 rfl base 5 i0 _ 1 1 Tryz.underlying49 hi0 hz0 hz1 hz2 rfl (by decide) v k (bys l) rfl (own_grU HO.out (Gr.alloc (Gr.refl w) (.cells #[.int .u8 ((n:Int)/16777216), .int .u8 ((n:Int)/65536%256), .int .u8 ((n:Int)/256%256), .int .u8 ((n:Int)%256)] 5))) (some ⟨w.heap.size,0,none⟩) 4 4 (bys (beB n 4)) rfl (by rw[four_bytes n hn];exact Rd.newU (W:=w) rfl _ [.int .u8 ((n:Int)/16777216), .int .u8 ((n:Int)/65536%256), .int .u8 ((n:Int)/256%256), .int .u8 ((n:Int)%256)] rfl) (bys_one _) (by unfold maxLen;omega) (by omega) (by simp;have:=HB.out;omega) ?_;intro v' w3 hown2 hgr2 hat2)
 have HR:Hid (RetNm base k l n v w (.returned v') w3):=Lib.hid ⟨v',rfl,by rw[bys_append];exact hown2,((Kp.of_gr _ (Gr.alloc (Gr.refl w) _)).grown hgr2 (fun b hb=> .inl hb)),fun b hb=>by
  rcases hat2 with h|h
  ·
   exact .inl (h▸hb)
  ·
   rw[h] at hb;injection hb with hb;exact .inr (by rw[←hb];simp)⟩
 clear hown2 hgr2 hat2
 go_wp2
 go_ret
 exact HR.out
end Go.Proofs.YtoncapkmaeghfaaGreat
