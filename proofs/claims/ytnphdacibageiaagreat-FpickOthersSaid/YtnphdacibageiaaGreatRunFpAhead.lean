import Derived.Test.YtnphdacibageiaaGreatRunFpDevR
import Derived.Test.YtnphdacibageiaaGreatRunFpCmp
import Derived.Deep.Cut
import Derived.Deep.CutRange
set_option linter.all false
set_option maxRecDepth 1000000
set_option maxHeartbeats 12800000
namespace Go.Proofs.YtnphdacibageiaaGreat
open Go.RowKit
def NB (n:Nat) (w:World) (b:Nat) (v:Vl):Prop:=w.cell? ⟨b,0,none⟩=some (.bool v.ok)∧w.cell? ⟨b,1,none⟩=some (.int .i64 v.n)∧w.frozen? ⟨b,0,none⟩=false∧w.frozen? ⟨b,1,none⟩=false∧n≤b∧b<w.heap.size
theorem NB.gr {n:Nat} {w w':World} {b:Nat} {v:Vl} (h:NB n w b v) (g:Gr w w'):NB n w' b v:=by
 obtain ⟨h0,h1,f0,f1,hn,hb⟩:=h
 exact ⟨(g.cell (p:=⟨b,0,none⟩) hb).trans h0,(g.cell (p:=⟨b,1,none⟩) hb).trans h1,(g.frozen (p:=⟨b,0,none⟩) hb).trans f0,(g.frozen (p:=⟨b,1,none⟩) hb).trans f1,hn,Nat.lt_of_lt_of_le hb g.size⟩
theorem NB.new {n:Nat} (w:World) (T:TypeId) (h:n≤w.heap.size):NB n (w.alloc (.cells #[.bool false, .int .i64 0] T)) w.heap.size ⟨false,0⟩:=by
 refine ⟨?_,?_,?_,?_,h,?_⟩
 all_goals first|(go_simp;done)|(simp;done)
theorem NB.set {n:Nat} {w:World} {b:Nat} {v:Vl} (h:NB n w b v) (u:Vl):NB n ((w.setCell ⟨b,0,none⟩ (.bool u.ok)).setCell ⟨b,1,none⟩ (.int .i64 u.n)) b u:=by
 obtain ⟨h0,h1,f0,f1,hn,hb⟩:=h
 refine ⟨?_,?_,?_,?_,hn,?_⟩
 all_goals first|(go_simp;done)|(simpa using hb)
theorem NB.other {n:Nat} {w:World} {b b':Nat} {v:Vl} (h:NB n w b v) (u:Vl) (hne:b≠b'):NB n ((w.setCell ⟨b',0,none⟩ (.bool u.ok)).setCell ⟨b',1,none⟩ (.int .i64 u.n)) b v:=by
 obtain ⟨h0,h1,f0,f1,hn,hb⟩:=h
 have e:∀j k,(⟨b',j,none⟩:Addr)≠⟨b,k,none⟩:=fun j k e=>by injection e with e;exact hne e.symm
 refine ⟨?_,?_,?_,?_,hn,?_⟩
 ·
  exact (World.cell?_setCell_other _ _ _ _ (e 1 0)).trans ((World.cell?_setCell_other _ _ _ _ (e 0 0)).trans h0)
 ·
  exact (World.cell?_setCell_other _ _ _ _ (e 1 1)).trans ((World.cell?_setCell_other _ _ _ _ (e 0 1)).trans h1)
 ·
  simpa using f0
 ·
  simpa using f1
 ·
  simpa using hb
theorem NB.vat {n:Nat} {w:World} {b:Nat} {v:Vl} (h:NB n w b v):VAt w b v:=⟨h.1,h.2.1,h.2.2.2.2.2⟩
def aheadB (nm a b:ByteArray) (x y:Vl):Bool:=bif nm.toList==[115,111,114,116,66,121,78,97,109,101] then ltN a b else ltV ((nm.toList==[115,111,114,116,66,121,77,105,110,105,109,97])||((nm.toList==[108,111,119,101,115,116,65,118,101,114,97,103,101])||(nm.toList==[108,111,119,101,115,116,67,117,114,114,101,110,116]))) x y
theorem ahead_any (nm:ByteArray) (x y:Sq) (w:World) (hlx:x.s.vals.length≤1000000) (hly:y.s.vals.length≤1000000) (hx:Rv w x.A x.s.vals) (hy:Rv w y.A y.s.vals) :
  Calls Tryz.prog 66 #[.string nm, .agg #[.string x.s.name, .int .i64 x.s.start, .int .i64 x.s.step, .slice x.A x.s.vals.length x.c, .int .i64 x.s.cons], .agg #[.string y.s.name, .int .i64 y.s.start, .int .i64 y.s.step, .slice y.A y.s.vals.length y.c, .int .i64 y.s.cons]] w fun e w'=>e= .returned (.bool (aheadB nm x.s.name y.s.name (ofR (rowF nm).by_ x.s.vals) (ofR (rowF nm).by_ y.s.vals)))∧Gr w w':=by
 have gw:Gr w ((w.alloc (.cells #[.string x.s.name, .int .i64 x.s.start, .int .i64 x.s.step, .slice x.A x.s.vals.length x.c, .int .i64 x.s.cons] 34)).alloc (.cells #[.string y.s.name, .int .i64 y.s.start, .int .i64 y.s.step, .slice y.A y.s.vals.length y.c, .int .i64 y.s.cons] 34)):=Gr.alloc (Gr.alloc (Gr.refl _) _) _
 have HF:Hid (∀W,Gr ((w.alloc (.cells #[.string x.s.name, .int .i64 x.s.start, .int .i64 x.s.step, .slice x.A x.s.vals.length x.c, .int .i64 x.s.cons] 34)).alloc (.cells #[.string y.s.name, .int .i64 y.s.start, .int .i64 y.s.step, .slice y.A y.s.vals.length y.c, .int .i64 y.s.cons] 34)) W→W.cell? ⟨w.heap.size,0,none⟩=some (.string x.s.name)∧W.cell? ⟨w.heap.size,1,none⟩=some (.int .i64 x.s.start)∧W.cell? ⟨w.heap.size,2,none⟩=some (.int .i64 x.s.step)∧W.cell? ⟨w.heap.size,3,none⟩=some (.slice x.A x.s.vals.length x.c)∧W.cell? ⟨w.heap.size,4,none⟩=some (.int .i64 x.s.cons)∧W.cell? ⟨w.heap.size+1,0,none⟩=some (.string y.s.name)∧W.cell? ⟨w.heap.size+1,1,none⟩=some (.int .i64 y.s.start)∧W.cell? ⟨w.heap.size+1,2,none⟩=some (.int .i64 y.s.step)∧W.cell? ⟨w.heap.size+1,3,none⟩=some (.slice y.A y.s.vals.length y.c)∧W.cell? ⟨w.heap.size+1,4,none⟩=some (.int .i64 y.s.cons)):=Lib.hid (fun W hW=>by
  refine ⟨?_,?_,?_,?_,?_,?_,?_,?_,?_,?_⟩
  ·
   exact (hW.cell (p:=⟨w.heap.size,0,none⟩) (by simp;omega)).trans (by go_simp)
  ·
   exact (hW.cell (p:=⟨w.heap.size,1,none⟩) (by simp;omega)).trans (by go_simp)
  ·
   exact (hW.cell (p:=⟨w.heap.size,2,none⟩) (by simp;omega)).trans (by go_simp)
  ·
   exact (hW.cell (p:=⟨w.heap.size,3,none⟩) (by simp;omega)).trans (by go_simp)
  ·
   exact (hW.cell (p:=⟨w.heap.size,4,none⟩) (by simp;omega)).trans (by go_simp)
  ·
   exact (hW.cell (p:=⟨w.heap.size+1,0,none⟩) (by simp)).trans (by go_simp)
  ·
   exact (hW.cell (p:=⟨w.heap.size+1,1,none⟩) (by simp)).trans (by go_simp)
  ·
   exact (hW.cell (p:=⟨w.heap.size+1,2,none⟩) (by simp)).trans (by go_simp)
  ·
   exact (hW.cell (p:=⟨w.heap.size+1,3,none⟩) (by simp)).trans (by go_simp)
  ·
   exact (hW.cell (p:=⟨w.heap.size+1,4,none⟩) (by simp)).trans (by go_simp))
 have Qx:=fun (W:World) (hW:Gr ((w.alloc (.cells #[.string x.s.name, .int .i64 x.s.start, .int .i64 x.s.step, .slice x.A x.s.vals.length x.c, .int .i64 x.s.cons] 34)).alloc (.cells #[.string y.s.name, .int .i64 y.s.start, .int .i64 y.s.step, .slice y.A y.s.vals.length y.c, .int .i64 y.s.cons] 34)) W)=>rfof_any nm x.s x.A x.c W hlx ((hx.gr gw).gr hW)
 have Qy:=fun (W:World) (hW:Gr ((w.alloc (.cells #[.string x.s.name, .int .i64 x.s.start, .int .i64 x.s.step, .slice x.A x.s.vals.length x.c, .int .i64 x.s.cons] 34)).alloc (.cells #[.string y.s.name, .int .i64 y.s.start, .int .i64 y.s.step, .slice y.A y.s.vals.length y.c, .int .i64 y.s.cons] 34)) W)=>rfof_any nm y.s y.A y.c W hly ((hy.gr gw).gr hW)
 unfold aggSr at Qx Qy
 generalize ofR (rowF nm).by_ x.s.vals=X at Qx ⊢
 generalize ofR (rowF nm).by_ y.s.vals=Y at Qy ⊢
 go_enter Tryz.func66,Tryz.ntmps66
 go_upto_region 1 with (fail)
 go_cut [7,8] from 9 to 55 (fun p q wx=>∃b c:Nat,p= .pointer (some ⟨b,0,none⟩)∧q= .pointer (some ⟨c,0,none⟩)∧VAt wx b X∧VAt wx c Y∧Gr ((w.alloc (.cells #[.string x.s.name, .int .i64 x.s.start, .int .i64 x.s.step, .slice x.A x.s.vals.length x.c, .int .i64 x.s.cons] 34)).alloc (.cells #[.string y.s.name, .int .i64 y.s.start, .int .i64 y.s.step, .slice y.A y.s.vals.length y.c, .int .i64 y.s.cons] 34)) wx)
 case first=>
  have hS0:Gr ((w.alloc (.cells #[.string x.s.name, .int .i64 x.s.start, .int .i64 x.s.step, .slice x.A x.s.vals.length x.c, .int .i64 x.s.cons] 34)).alloc (.cells #[.string y.s.name, .int .i64 y.s.start, .int .i64 y.s.step, .slice y.A y.s.vals.length y.c, .int .i64 y.s.cons] 34)) ((w.alloc (.cells #[.string x.s.name, .int .i64 x.s.start, .int .i64 x.s.step, .slice x.A x.s.vals.length x.c, .int .i64 x.s.cons] 34)).alloc (.cells #[.string y.s.name, .int .i64 y.s.start, .int .i64 y.s.step, .slice y.A y.s.vals.length y.c, .int .i64 y.s.cons] 34)).drew:=Gr.drew (Gr.refl _)
  obtain ⟨V,hV⟩:∃V,V=((w.alloc (.cells #[.string x.s.name, .int .i64 x.s.start, .int .i64 x.s.step, .slice x.A x.s.vals.length x.c, .int .i64 x.s.cons] 34)).alloc (.cells #[.string y.s.name, .int .i64 y.s.start, .int .i64 y.s.step, .slice y.A y.s.vals.length y.c, .int .i64 y.s.cons] 34)).drew:=⟨_,rfl⟩
  refine wp_region_Z 9 (fun W=>Gr ((w.alloc (.cells #[.string x.s.name, .int .i64 x.s.start, .int .i64 x.s.step, .slice x.A x.s.vals.length x.c, .int .i64 x.s.cons] 34)).alloc (.cells #[.string y.s.name, .int .i64 y.s.start, .int .i64 y.s.step, .slice y.A y.s.vals.length y.c, .int .i64 y.s.cons] 34)) W) (by kernel_rfl) ?_
  rw[←hV] at hS0 ⊢
  clear hV
  refine zt 0 rfl hS0 (fun W hS=>by go_simp;rfl) ?_
  refine zt 1 rfl hS0 (fun W hS=>by have y:=HF.out W hS;obtain ⟨a0,a1,a2,a3,a4,b0,b1,b2,b3,b4⟩:=y;go_simp;rfl) ?_
  refine zt 3 rfl hS0 (fun W hS=>by go_simp;rfl) ?_
  refine zt 4 rfl hS0 (fun W hS=>by have y:=HF.out W hS;obtain ⟨a0,a1,a2,a3,a4,b0,b1,b2,b3,b4⟩:=y;go_simp;rfl) ?_
  refine wpAnyZ_ready (rs:=[2,6,7]) (by kernel_rfl) (by simp) ?_
  refine AllReadyZ.cons rfl (by rfl) (fun K hK=>?_) (AllReadyZ.cons rfl (by rfl) (fun K hK=>?_) (AllReadyZ.cons rfl (by rfl) (fun K hK=>?_) AllReadyZ.nil))
  ·
   go_simp
   refine (Qx _ hS0).mono ?_;rintro e w11 ⟨rfl,hg13⟩
   have g12:=Gr.trans hS0 hg13
   clear hg13
   go_wp2_with fail
   refine hK.out _ _ (fun hnz=>?s5) (fun _=>?r5)
   case s5=>exact g12
   clear hK K
   try simp only[Pu]
   refine wpAnyZ_ready (rs:=[5,6,7]) (by kernel_rfl) (by simp) ?_
   refine AllReadyZ.cons rfl (by rfl) (fun K hK=>?_) (AllReadyZ.cons rfl (by rfl) (fun K hK=>?_) (AllReadyZ.cons rfl (by rfl) (fun K hK=>?_) AllReadyZ.nil))
   ·
    go_simp
    refine (Qy _ g12).mono ?_;rintro e w14 ⟨rfl,hg16⟩
    have g15:=Gr.trans g12 hg16
    clear hg16
    go_wp2_with fail
    refine hK.out _ _ (fun hnz=>?s6) (fun _=>?r6)
    case s6=>exact g15
    clear hK K
    try simp only[Pu]
    refine wpAnyZ_ready (rs:=[6,7]) (by kernel_rfl) (by simp) ?_
    refine AllReadyZ.cons rfl (by rfl) (fun K hK=>?_) (AllReadyZ.cons rfl (by rfl) (fun K hK=>?_) AllReadyZ.nil)
    ·
     have g17:=Gr.alloc g15 (.cells #[.bool false, .int .i64 0] 25)
     have nb18:=NB.new w14 25 g15.size
     go_wp2_with fail
     refine hK.out _ _ (fun hnz=>?s7) (fun _=>?r7)
     case s7=>exact g17
     clear hK K
     try simp only[Pu]
     obtain ⟨V19,hV19⟩:∃V19,V19=w14.alloc (.cells #[.bool false, .int .i64 0] 25):=⟨_,rfl⟩
     rw[←hV19] at g17 nb18 ⊢
     clear hV19
     refine zs 7 rfl (fun K hK=>?_)
     have g20:=Gr.alloc g17 (.cells #[.bool false, .int .i64 0] 25)
     have nb21:=NB.new V19 25 g17.size
     have nb22:=nb18.gr (Gr.alloc (Gr.refl _) (.cells #[.bool false, .int .i64 0] 25))
     have hne:w14.heap.size≠V19.heap.size:=Nat.ne_of_lt nb18.2.2.2.2.2
     go_wp2_with fail
     refine hK.out _ _ (fun hnz=>?s8) (fun _=>?r8)
     case s8=>exact g20
     clear hK K
     try simp only[Pu]
     obtain ⟨V23,hV23⟩:∃V23,V23=V19.alloc (.cells #[.bool false, .int .i64 0] 25):=⟨_,rfl⟩
     rw[←hV23] at g20 nb22 nb21 ⊢
     clear hV23
     refine zs 8 rfl (fun K hK=>?_)
     obtain ⟨q24,q25,q26,q27,q28,q29⟩:=id nb22
     have nb30:=nb22.set X
     have nb31:=nb21.other X (b':=w14.heap.size) (by first|exact hne|exact hne.symm)
     have g32:=Gr.setCell (Gr.setCell g20 nb22.2.2.2.2.1 (p:=⟨w14.heap.size,0,none⟩) (.bool X.ok)) nb22.2.2.2.2.1 (p:=⟨w14.heap.size,1,none⟩) (.int .i64 X.n)
     go_wp2_with fail
     clear q24 q25 q26 q27 q28 q29
     refine hK.out _ _ (fun hnz=>?s9) (fun _=>?r9)
     case s9=>exact g32
     clear hK K
     try simp only[Pu]
     refine zs 9 rfl (fun K hK=>?_)
     obtain ⟨q33,q34,q35,q36,q37,q38⟩:=id nb31
     have nb39:=nb31.set Y
     have nb40:=nb30.other Y (b':=V19.heap.size) (by first|exact hne|exact hne.symm)
     have g41:=Gr.setCell (Gr.setCell g32 nb31.2.2.2.2.1 (p:=⟨V19.heap.size,0,none⟩) (.bool Y.ok)) nb31.2.2.2.2.1 (p:=⟨V19.heap.size,1,none⟩) (.int .i64 Y.n)
     go_wp2_with fail
     clear q33 q34 q35 q36 q37 q38
     refine hK.out _ _ (fun hnz=>?s10) (fun _=>?r10)
     case s10=>exact absurd rfl hnz
     clear hK K
     try simp only[Pu]
     refine wpAnyZ_done (by kernel_rfl) ?_ _
     go_wp2_with fail
     go_meet
     exact ⟨w14.heap.size,V19.heap.size,rfl,rfl,nb40.vat,nb39.vat,g41⟩
    ·
     have g42:=Gr.alloc g15 (.cells #[.bool false, .int .i64 0] 25)
     have nb43:=NB.new w14 25 g15.size
     go_wp2_with fail
     refine hK.out _ _ (fun hnz=>?s11) (fun _=>?r11)
     case s11=>exact g42
     clear hK K
     try simp only[Pu]
     obtain ⟨V44,hV44⟩:∃V44,V44=w14.alloc (.cells #[.bool false, .int .i64 0] 25):=⟨_,rfl⟩
     rw[←hV44] at g42 nb43 ⊢
     clear hV44
     refine zs 6 rfl (fun K hK=>?_)
     have g45:=Gr.alloc g42 (.cells #[.bool false, .int .i64 0] 25)
     have nb46:=NB.new V44 25 g42.size
     have nb47:=nb43.gr (Gr.alloc (Gr.refl _) (.cells #[.bool false, .int .i64 0] 25))
     have hne:w14.heap.size≠V44.heap.size:=Nat.ne_of_lt nb43.2.2.2.2.2
     go_wp2_with fail
     refine hK.out _ _ (fun hnz=>?s12) (fun _=>?r12)
     case s12=>exact g45
     clear hK K
     try simp only[Pu]
     obtain ⟨V48,hV48⟩:∃V48,V48=V44.alloc (.cells #[.bool false, .int .i64 0] 25):=⟨_,rfl⟩
     rw[←hV48] at g45 nb47 nb46 ⊢
     clear hV48
     refine zs 8 rfl (fun K hK=>?_)
     obtain ⟨q49,q50,q51,q52,q53,q54⟩:=id nb46
     have nb55:=nb46.set X
     have nb56:=nb47.other X (b':=V44.heap.size) (by first|exact hne|exact hne.symm)
     have g57:=Gr.setCell (Gr.setCell g45 nb46.2.2.2.2.1 (p:=⟨V44.heap.size,0,none⟩) (.bool X.ok)) nb46.2.2.2.2.1 (p:=⟨V44.heap.size,1,none⟩) (.int .i64 X.n)
     go_wp2_with fail
     clear q49 q50 q51 q52 q53 q54
     refine hK.out _ _ (fun hnz=>?s13) (fun _=>?r13)
     case s13=>exact g57
     clear hK K
     try simp only[Pu]
     refine zs 9 rfl (fun K hK=>?_)
     obtain ⟨q58,q59,q60,q61,q62,q63⟩:=id nb56
     have nb64:=nb56.set Y
     have nb65:=nb55.other Y (b':=w14.heap.size) (by first|exact hne|exact hne.symm)
     have g66:=Gr.setCell (Gr.setCell g57 nb56.2.2.2.2.1 (p:=⟨w14.heap.size,0,none⟩) (.bool Y.ok)) nb56.2.2.2.2.1 (p:=⟨w14.heap.size,1,none⟩) (.int .i64 Y.n)
     go_wp2_with fail
     clear q58 q59 q60 q61 q62 q63
     refine hK.out _ _ (fun hnz=>?s14) (fun _=>?r14)
     case s14=>exact absurd rfl hnz
     clear hK K
     try simp only[Pu]
     refine wpAnyZ_done (by kernel_rfl) ?_ _
     go_wp2_with fail
     go_meet
     exact ⟨V44.heap.size,w14.heap.size,rfl,rfl,nb65.vat,nb64.vat,g66⟩
   ·
    have g67:=Gr.alloc g12 (.cells #[.bool false, .int .i64 0] 25)
    have nb68:=NB.new w11 25 g12.size
    go_wp2_with fail
    refine hK.out _ _ (fun hnz=>?s15) (fun _=>?r15)
    case s15=>exact g67
    clear hK K
    try simp only[Pu]
    obtain ⟨V69,hV69⟩:∃V69,V69=w11.alloc (.cells #[.bool false, .int .i64 0] 25):=⟨_,rfl⟩
    rw[←hV69] at g67 nb68 ⊢
    clear hV69
    refine wpAnyZ_ready (rs:=[5,7]) (by kernel_rfl) (by simp) ?_
    refine AllReadyZ.cons rfl (by rfl) (fun K hK=>?_) (AllReadyZ.cons rfl (by rfl) (fun K hK=>?_) AllReadyZ.nil)
    ·
     go_simp
     refine (Qy _ g67).mono ?_;rintro e w70 ⟨rfl,hg72⟩
     have g71:=Gr.trans g67 hg72
     have nb73:=nb68.gr hg72
     clear hg72
     go_wp2_with fail
     refine hK.out _ _ (fun hnz=>?s16) (fun _=>?r16)
     case s16=>exact g71
     clear hK K
     try simp only[Pu]
     refine zs 7 rfl (fun K hK=>?_)
     have g74:=Gr.alloc g71 (.cells #[.bool false, .int .i64 0] 25)
     have nb75:=NB.new w70 25 g71.size
     have nb76:=nb73.gr (Gr.alloc (Gr.refl _) (.cells #[.bool false, .int .i64 0] 25))
     have hne:w11.heap.size≠w70.heap.size:=Nat.ne_of_lt nb73.2.2.2.2.2
     go_wp2_with fail
     refine hK.out _ _ (fun hnz=>?s17) (fun _=>?r17)
     case s17=>exact g74
     clear hK K
     try simp only[Pu]
     obtain ⟨V77,hV77⟩:∃V77,V77=w70.alloc (.cells #[.bool false, .int .i64 0] 25):=⟨_,rfl⟩
     rw[←hV77] at g74 nb76 nb75 ⊢
     clear hV77
     refine zs 8 rfl (fun K hK=>?_)
     obtain ⟨q78,q79,q80,q81,q82,q83⟩:=id nb76
     have nb84:=nb76.set X
     have nb85:=nb75.other X (b':=w11.heap.size) (by first|exact hne|exact hne.symm)
     have g86:=Gr.setCell (Gr.setCell g74 nb76.2.2.2.2.1 (p:=⟨w11.heap.size,0,none⟩) (.bool X.ok)) nb76.2.2.2.2.1 (p:=⟨w11.heap.size,1,none⟩) (.int .i64 X.n)
     go_wp2_with fail
     clear q78 q79 q80 q81 q82 q83
     refine hK.out _ _ (fun hnz=>?s18) (fun _=>?r18)
     case s18=>exact g86
     clear hK K
     try simp only[Pu]
     refine zs 9 rfl (fun K hK=>?_)
     obtain ⟨q87,q88,q89,q90,q91,q92⟩:=id nb85
     have nb93:=nb85.set Y
     have nb94:=nb84.other Y (b':=w70.heap.size) (by first|exact hne|exact hne.symm)
     have g95:=Gr.setCell (Gr.setCell g86 nb85.2.2.2.2.1 (p:=⟨w70.heap.size,0,none⟩) (.bool Y.ok)) nb85.2.2.2.2.1 (p:=⟨w70.heap.size,1,none⟩) (.int .i64 Y.n)
     go_wp2_with fail
     clear q87 q88 q89 q90 q91 q92
     refine hK.out _ _ (fun hnz=>?s19) (fun _=>?r19)
     case s19=>exact absurd rfl hnz
     clear hK K
     try simp only[Pu]
     refine wpAnyZ_done (by kernel_rfl) ?_ _
     go_wp2_with fail
     go_meet
     exact ⟨w11.heap.size,w70.heap.size,rfl,rfl,nb94.vat,nb93.vat,g95⟩
    ·
     have g96:=Gr.alloc g67 (.cells #[.bool false, .int .i64 0] 25)
     have nb97:=NB.new V69 25 g67.size
     have nb98:=nb68.gr (Gr.alloc (Gr.refl _) (.cells #[.bool false, .int .i64 0] 25))
     have hne:w11.heap.size≠V69.heap.size:=Nat.ne_of_lt nb68.2.2.2.2.2
     go_wp2_with fail
     refine hK.out _ _ (fun hnz=>?s20) (fun _=>?r20)
     case s20=>exact g96
     clear hK K
     try simp only[Pu]
     obtain ⟨V99,hV99⟩:∃V99,V99=V69.alloc (.cells #[.bool false, .int .i64 0] 25):=⟨_,rfl⟩
     rw[←hV99] at g96 nb98 nb97 ⊢
     clear hV99
     refine zs 5 rfl (fun K hK=>?_)
     go_simp
     refine (Qy _ g96).mono ?_;rintro e w100 ⟨rfl,hg102⟩
     have g101:=Gr.trans g96 hg102
     have nb103:=nb98.gr hg102
     have nb104:=nb97.gr hg102
     clear hg102
     go_wp2_with fail
     refine hK.out _ _ (fun hnz=>?s21) (fun _=>?r21)
     case s21=>exact g101
     clear hK K
     try simp only[Pu]
     refine zs 8 rfl (fun K hK=>?_)
     obtain ⟨q105,q106,q107,q108,q109,q110⟩:=id nb103
     have nb111:=nb103.set X
     have nb112:=nb104.other X (b':=w11.heap.size) (by first|exact hne|exact hne.symm)
     have g113:=Gr.setCell (Gr.setCell g101 nb103.2.2.2.2.1 (p:=⟨w11.heap.size,0,none⟩) (.bool X.ok)) nb103.2.2.2.2.1 (p:=⟨w11.heap.size,1,none⟩) (.int .i64 X.n)
     go_wp2_with fail
     clear q105 q106 q107 q108 q109 q110
     refine hK.out _ _ (fun hnz=>?s22) (fun _=>?r22)
     case s22=>exact g113
     clear hK K
     try simp only[Pu]
     refine zs 9 rfl (fun K hK=>?_)
     obtain ⟨q114,q115,q116,q117,q118,q119⟩:=id nb112
     have nb120:=nb112.set Y
     have nb121:=nb111.other Y (b':=V69.heap.size) (by first|exact hne|exact hne.symm)
     have g122:=Gr.setCell (Gr.setCell g113 nb112.2.2.2.2.1 (p:=⟨V69.heap.size,0,none⟩) (.bool Y.ok)) nb112.2.2.2.2.1 (p:=⟨V69.heap.size,1,none⟩) (.int .i64 Y.n)
     go_wp2_with fail
     clear q114 q115 q116 q117 q118 q119
     refine hK.out _ _ (fun hnz=>?s23) (fun _=>?r23)
     case s23=>exact absurd rfl hnz
     clear hK K
     try simp only[Pu]
     refine wpAnyZ_done (by kernel_rfl) ?_ _
     go_wp2_with fail
     go_meet
     exact ⟨w11.heap.size,V69.heap.size,rfl,rfl,nb121.vat,nb120.vat,g122⟩
   ·
    have g123:=Gr.alloc g12 (.cells #[.bool false, .int .i64 0] 25)
    have nb124:=NB.new w11 25 g12.size
    go_wp2_with fail
    refine hK.out _ _ (fun hnz=>?s24) (fun _=>?r24)
    case s24=>exact g123
    clear hK K
    try simp only[Pu]
    obtain ⟨V125,hV125⟩:∃V125,V125=w11.alloc (.cells #[.bool false, .int .i64 0] 25):=⟨_,rfl⟩
    rw[←hV125] at g123 nb124 ⊢
    clear hV125
    refine wpAnyZ_ready (rs:=[5,6]) (by kernel_rfl) (by simp) ?_
    refine AllReadyZ.cons rfl (by rfl) (fun K hK=>?_) (AllReadyZ.cons rfl (by rfl) (fun K hK=>?_) AllReadyZ.nil)
    ·
     go_simp
     refine (Qy _ g123).mono ?_;rintro e w126 ⟨rfl,hg128⟩
     have g127:=Gr.trans g123 hg128
     have nb129:=nb124.gr hg128
     clear hg128
     go_wp2_with fail
     refine hK.out _ _ (fun hnz=>?s25) (fun _=>?r25)
     case s25=>exact g127
     clear hK K
     try simp only[Pu]
     refine zs 6 rfl (fun K hK=>?_)
     have g130:=Gr.alloc g127 (.cells #[.bool false, .int .i64 0] 25)
     have nb131:=NB.new w126 25 g127.size
     have nb132:=nb129.gr (Gr.alloc (Gr.refl _) (.cells #[.bool false, .int .i64 0] 25))
     have hne:w11.heap.size≠w126.heap.size:=Nat.ne_of_lt nb129.2.2.2.2.2
     go_wp2_with fail
     refine hK.out _ _ (fun hnz=>?s26) (fun _=>?r26)
     case s26=>exact g130
     clear hK K
     try simp only[Pu]
     obtain ⟨V133,hV133⟩:∃V133,V133=w126.alloc (.cells #[.bool false, .int .i64 0] 25):=⟨_,rfl⟩
     rw[←hV133] at g130 nb132 nb131 ⊢
     clear hV133
     refine zs 8 rfl (fun K hK=>?_)
     obtain ⟨q134,q135,q136,q137,q138,q139⟩:=id nb131
     have nb140:=nb131.set X
     have nb141:=nb132.other X (b':=w126.heap.size) (by first|exact hne|exact hne.symm)
     have g142:=Gr.setCell (Gr.setCell g130 nb131.2.2.2.2.1 (p:=⟨w126.heap.size,0,none⟩) (.bool X.ok)) nb131.2.2.2.2.1 (p:=⟨w126.heap.size,1,none⟩) (.int .i64 X.n)
     go_wp2_with fail
     clear q134 q135 q136 q137 q138 q139
     refine hK.out _ _ (fun hnz=>?s27) (fun _=>?r27)
     case s27=>exact g142
     clear hK K
     try simp only[Pu]
     refine zs 9 rfl (fun K hK=>?_)
     obtain ⟨q143,q144,q145,q146,q147,q148⟩:=id nb141
     have nb149:=nb141.set Y
     have nb150:=nb140.other Y (b':=w11.heap.size) (by first|exact hne|exact hne.symm)
     have g151:=Gr.setCell (Gr.setCell g142 nb141.2.2.2.2.1 (p:=⟨w11.heap.size,0,none⟩) (.bool Y.ok)) nb141.2.2.2.2.1 (p:=⟨w11.heap.size,1,none⟩) (.int .i64 Y.n)
     go_wp2_with fail
     clear q143 q144 q145 q146 q147 q148
     refine hK.out _ _ (fun hnz=>?s28) (fun _=>?r28)
     case s28=>exact absurd rfl hnz
     clear hK K
     try simp only[Pu]
     refine wpAnyZ_done (by kernel_rfl) ?_ _
     go_wp2_with fail
     go_meet
     exact ⟨w126.heap.size,w11.heap.size,rfl,rfl,nb150.vat,nb149.vat,g151⟩
    ·
     have g152:=Gr.alloc g123 (.cells #[.bool false, .int .i64 0] 25)
     have nb153:=NB.new V125 25 g123.size
     have nb154:=nb124.gr (Gr.alloc (Gr.refl _) (.cells #[.bool false, .int .i64 0] 25))
     have hne:w11.heap.size≠V125.heap.size:=Nat.ne_of_lt nb124.2.2.2.2.2
     go_wp2_with fail
     refine hK.out _ _ (fun hnz=>?s29) (fun _=>?r29)
     case s29=>exact g152
     clear hK K
     try simp only[Pu]
     obtain ⟨V155,hV155⟩:∃V155,V155=V125.alloc (.cells #[.bool false, .int .i64 0] 25):=⟨_,rfl⟩
     rw[←hV155] at g152 nb154 nb153 ⊢
     clear hV155
     refine zs 5 rfl (fun K hK=>?_)
     go_simp
     refine (Qy _ g152).mono ?_;rintro e w156 ⟨rfl,hg158⟩
     have g157:=Gr.trans g152 hg158
     have nb159:=nb154.gr hg158
     have nb160:=nb153.gr hg158
     clear hg158
     go_wp2_with fail
     refine hK.out _ _ (fun hnz=>?s30) (fun _=>?r30)
     case s30=>exact g157
     clear hK K
     try simp only[Pu]
     refine zs 8 rfl (fun K hK=>?_)
     obtain ⟨q161,q162,q163,q164,q165,q166⟩:=id nb160
     have nb167:=nb160.set X
     have nb168:=nb159.other X (b':=V125.heap.size) (by first|exact hne|exact hne.symm)
     have g169:=Gr.setCell (Gr.setCell g157 nb160.2.2.2.2.1 (p:=⟨V125.heap.size,0,none⟩) (.bool X.ok)) nb160.2.2.2.2.1 (p:=⟨V125.heap.size,1,none⟩) (.int .i64 X.n)
     go_wp2_with fail
     clear q161 q162 q163 q164 q165 q166
     refine hK.out _ _ (fun hnz=>?s31) (fun _=>?r31)
     case s31=>exact g169
     clear hK K
     try simp only[Pu]
     refine zs 9 rfl (fun K hK=>?_)
     obtain ⟨q170,q171,q172,q173,q174,q175⟩:=id nb168
     have nb176:=nb168.set Y
     have nb177:=nb167.other Y (b':=w11.heap.size) (by first|exact hne|exact hne.symm)
     have g178:=Gr.setCell (Gr.setCell g169 nb168.2.2.2.2.1 (p:=⟨w11.heap.size,0,none⟩) (.bool Y.ok)) nb168.2.2.2.2.1 (p:=⟨w11.heap.size,1,none⟩) (.int .i64 Y.n)
     go_wp2_with fail
     clear q170 q171 q172 q173 q174 q175
     refine hK.out _ _ (fun hnz=>?s32) (fun _=>?r32)
     case s32=>exact absurd rfl hnz
     clear hK K
     try simp only[Pu]
     refine wpAnyZ_done (by kernel_rfl) ?_ _
     go_wp2_with fail
     go_meet
     exact ⟨V125.heap.size,w11.heap.size,rfl,rfl,nb177.vat,nb176.vat,g178⟩
  ·
   have g179:=Gr.alloc hS0 (.cells #[.bool false, .int .i64 0] 25)
   have nb180:=NB.new V 25 hS0.size
   go_wp2_with fail
   refine hK.out _ _ (fun hnz=>?s33) (fun _=>?r33)
   case s33=>exact g179
   clear hK K
   try simp only[Pu]
   obtain ⟨V181,hV181⟩:∃V181,V181=V.alloc (.cells #[.bool false, .int .i64 0] 25):=⟨_,rfl⟩
   rw[←hV181] at g179 nb180 ⊢
   clear hV181
   refine wpAnyZ_ready (rs:=[2,7]) (by kernel_rfl) (by simp) ?_
   refine AllReadyZ.cons rfl (by rfl) (fun K hK=>?_) (AllReadyZ.cons rfl (by rfl) (fun K hK=>?_) AllReadyZ.nil)
   ·
    go_simp
    refine (Qx _ g179).mono ?_;rintro e w182 ⟨rfl,hg184⟩
    have g183:=Gr.trans g179 hg184
    have nb185:=nb180.gr hg184
    clear hg184
    go_wp2_with fail
    refine hK.out _ _ (fun hnz=>?s34) (fun _=>?r34)
    case s34=>exact g183
    clear hK K
    try simp only[Pu]
    refine wpAnyZ_ready (rs:=[5,7]) (by kernel_rfl) (by simp) ?_
    refine AllReadyZ.cons rfl (by rfl) (fun K hK=>?_) (AllReadyZ.cons rfl (by rfl) (fun K hK=>?_) AllReadyZ.nil)
    ·
     go_simp
     refine (Qy _ g183).mono ?_;rintro e w186 ⟨rfl,hg188⟩
     have g187:=Gr.trans g183 hg188
     have nb189:=nb185.gr hg188
     clear hg188
     go_wp2_with fail
     refine hK.out _ _ (fun hnz=>?s35) (fun _=>?r35)
     case s35=>exact g187
     clear hK K
     try simp only[Pu]
     refine zs 7 rfl (fun K hK=>?_)
     have g190:=Gr.alloc g187 (.cells #[.bool false, .int .i64 0] 25)
     have nb191:=NB.new w186 25 g187.size
     have nb192:=nb189.gr (Gr.alloc (Gr.refl _) (.cells #[.bool false, .int .i64 0] 25))
     have hne:V.heap.size≠w186.heap.size:=Nat.ne_of_lt nb189.2.2.2.2.2
     go_wp2_with fail
     refine hK.out _ _ (fun hnz=>?s36) (fun _=>?r36)
     case s36=>exact g190
     clear hK K
     try simp only[Pu]
     obtain ⟨V193,hV193⟩:∃V193,V193=w186.alloc (.cells #[.bool false, .int .i64 0] 25):=⟨_,rfl⟩
     rw[←hV193] at g190 nb192 nb191 ⊢
     clear hV193
     refine zs 8 rfl (fun K hK=>?_)
     obtain ⟨q194,q195,q196,q197,q198,q199⟩:=id nb192
     have nb200:=nb192.set X
     have nb201:=nb191.other X (b':=V.heap.size) (by first|exact hne|exact hne.symm)
     have g202:=Gr.setCell (Gr.setCell g190 nb192.2.2.2.2.1 (p:=⟨V.heap.size,0,none⟩) (.bool X.ok)) nb192.2.2.2.2.1 (p:=⟨V.heap.size,1,none⟩) (.int .i64 X.n)
     go_wp2_with fail
     clear q194 q195 q196 q197 q198 q199
     refine hK.out _ _ (fun hnz=>?s37) (fun _=>?r37)
     case s37=>exact g202
     clear hK K
     try simp only[Pu]
     refine zs 9 rfl (fun K hK=>?_)
     obtain ⟨q203,q204,q205,q206,q207,q208⟩:=id nb201
     have nb209:=nb201.set Y
     have nb210:=nb200.other Y (b':=w186.heap.size) (by first|exact hne|exact hne.symm)
     have g211:=Gr.setCell (Gr.setCell g202 nb201.2.2.2.2.1 (p:=⟨w186.heap.size,0,none⟩) (.bool Y.ok)) nb201.2.2.2.2.1 (p:=⟨w186.heap.size,1,none⟩) (.int .i64 Y.n)
     go_wp2_with fail
     clear q203 q204 q205 q206 q207 q208
     refine hK.out _ _ (fun hnz=>?s38) (fun _=>?r38)
     case s38=>exact absurd rfl hnz
     clear hK K
     try simp only[Pu]
     refine wpAnyZ_done (by kernel_rfl) ?_ _
     go_wp2_with fail
     go_meet
     exact ⟨V.heap.size,w186.heap.size,rfl,rfl,nb210.vat,nb209.vat,g211⟩
    ·
     have g212:=Gr.alloc g183 (.cells #[.bool false, .int .i64 0] 25)
     have nb213:=NB.new w182 25 g183.size
     have nb214:=nb185.gr (Gr.alloc (Gr.refl _) (.cells #[.bool false, .int .i64 0] 25))
     have hne:V.heap.size≠w182.heap.size:=Nat.ne_of_lt nb185.2.2.2.2.2
     go_wp2_with fail
     refine hK.out _ _ (fun hnz=>?s39) (fun _=>?r39)
     case s39=>exact g212
     clear hK K
     try simp only[Pu]
     obtain ⟨V215,hV215⟩:∃V215,V215=w182.alloc (.cells #[.bool false, .int .i64 0] 25):=⟨_,rfl⟩
     rw[←hV215] at g212 nb214 nb213 ⊢
     clear hV215
     refine zs 5 rfl (fun K hK=>?_)
     go_simp
     refine (Qy _ g212).mono ?_;rintro e w216 ⟨rfl,hg218⟩
     have g217:=Gr.trans g212 hg218
     have nb219:=nb214.gr hg218
     have nb220:=nb213.gr hg218
     clear hg218
     go_wp2_with fail
     refine hK.out _ _ (fun hnz=>?s40) (fun _=>?r40)
     case s40=>exact g217
     clear hK K
     try simp only[Pu]
     refine zs 8 rfl (fun K hK=>?_)
     obtain ⟨q221,q222,q223,q224,q225,q226⟩:=id nb219
     have nb227:=nb219.set X
     have nb228:=nb220.other X (b':=V.heap.size) (by first|exact hne|exact hne.symm)
     have g229:=Gr.setCell (Gr.setCell g217 nb219.2.2.2.2.1 (p:=⟨V.heap.size,0,none⟩) (.bool X.ok)) nb219.2.2.2.2.1 (p:=⟨V.heap.size,1,none⟩) (.int .i64 X.n)
     go_wp2_with fail
     clear q221 q222 q223 q224 q225 q226
     refine hK.out _ _ (fun hnz=>?s41) (fun _=>?r41)
     case s41=>exact g229
     clear hK K
     try simp only[Pu]
     refine zs 9 rfl (fun K hK=>?_)
     obtain ⟨q230,q231,q232,q233,q234,q235⟩:=id nb228
     have nb236:=nb228.set Y
     have nb237:=nb227.other Y (b':=w182.heap.size) (by first|exact hne|exact hne.symm)
     have g238:=Gr.setCell (Gr.setCell g229 nb228.2.2.2.2.1 (p:=⟨w182.heap.size,0,none⟩) (.bool Y.ok)) nb228.2.2.2.2.1 (p:=⟨w182.heap.size,1,none⟩) (.int .i64 Y.n)
     go_wp2_with fail
     clear q230 q231 q232 q233 q234 q235
     refine hK.out _ _ (fun hnz=>?s42) (fun _=>?r42)
     case s42=>exact absurd rfl hnz
     clear hK K
     try simp only[Pu]
     refine wpAnyZ_done (by kernel_rfl) ?_ _
     go_wp2_with fail
     go_meet
     exact ⟨V.heap.size,w182.heap.size,rfl,rfl,nb237.vat,nb236.vat,g238⟩
   ·
    have g239:=Gr.alloc g179 (.cells #[.bool false, .int .i64 0] 25)
    have nb240:=NB.new V181 25 g179.size
    have nb241:=nb180.gr (Gr.alloc (Gr.refl _) (.cells #[.bool false, .int .i64 0] 25))
    have hne:V.heap.size≠V181.heap.size:=Nat.ne_of_lt nb180.2.2.2.2.2
    go_wp2_with fail
    refine hK.out _ _ (fun hnz=>?s43) (fun _=>?r43)
    case s43=>exact g239
    clear hK K
    try simp only[Pu]
    obtain ⟨V242,hV242⟩:∃V242,V242=V181.alloc (.cells #[.bool false, .int .i64 0] 25):=⟨_,rfl⟩
    rw[←hV242] at g239 nb241 nb240 ⊢
    clear hV242
    refine zs 2 rfl (fun K hK=>?_)
    go_simp
    refine (Qx _ g239).mono ?_;rintro e w243 ⟨rfl,hg245⟩
    have g244:=Gr.trans g239 hg245
    have nb246:=nb241.gr hg245
    have nb247:=nb240.gr hg245
    clear hg245
    go_wp2_with fail
    refine hK.out _ _ (fun hnz=>?s44) (fun _=>?r44)
    case s44=>exact g244
    clear hK K
    try simp only[Pu]
    refine zs 5 rfl (fun K hK=>?_)
    go_simp
    refine (Qy _ g244).mono ?_;rintro e w248 ⟨rfl,hg250⟩
    have g249:=Gr.trans g244 hg250
    have nb251:=nb246.gr hg250
    have nb252:=nb247.gr hg250
    clear hg250
    go_wp2_with fail
    refine hK.out _ _ (fun hnz=>?s45) (fun _=>?r45)
    case s45=>exact g249
    clear hK K
    try simp only[Pu]
    refine zs 8 rfl (fun K hK=>?_)
    obtain ⟨q253,q254,q255,q256,q257,q258⟩:=id nb251
    have nb259:=nb251.set X
    have nb260:=nb252.other X (b':=V.heap.size) (by first|exact hne|exact hne.symm)
    have g261:=Gr.setCell (Gr.setCell g249 nb251.2.2.2.2.1 (p:=⟨V.heap.size,0,none⟩) (.bool X.ok)) nb251.2.2.2.2.1 (p:=⟨V.heap.size,1,none⟩) (.int .i64 X.n)
    go_wp2_with fail
    clear q253 q254 q255 q256 q257 q258
    refine hK.out _ _ (fun hnz=>?s46) (fun _=>?r46)
    case s46=>exact g261
    clear hK K
    try simp only[Pu]
    refine zs 9 rfl (fun K hK=>?_)
    obtain ⟨q262,q263,q264,q265,q266,q267⟩:=id nb260
    have nb268:=nb260.set Y
    have nb269:=nb259.other Y (b':=V181.heap.size) (by first|exact hne|exact hne.symm)
    have g270:=Gr.setCell (Gr.setCell g261 nb260.2.2.2.2.1 (p:=⟨V181.heap.size,0,none⟩) (.bool Y.ok)) nb260.2.2.2.2.1 (p:=⟨V181.heap.size,1,none⟩) (.int .i64 Y.n)
    go_wp2_with fail
    clear q262 q263 q264 q265 q266 q267
    refine hK.out _ _ (fun hnz=>?s47) (fun _=>?r47)
    case s47=>exact absurd rfl hnz
    clear hK K
    try simp only[Pu]
    refine wpAnyZ_done (by kernel_rfl) ?_ _
    go_wp2_with fail
    go_meet
    exact ⟨V.heap.size,V181.heap.size,rfl,rfl,nb269.vat,nb268.vat,g270⟩
  ·
   have g271:=Gr.alloc hS0 (.cells #[.bool false, .int .i64 0] 25)
   have nb272:=NB.new V 25 hS0.size
   go_wp2_with fail
   refine hK.out _ _ (fun hnz=>?s48) (fun _=>?r48)
   case s48=>exact g271
   clear hK K
   try simp only[Pu]
   obtain ⟨V273,hV273⟩:∃V273,V273=V.alloc (.cells #[.bool false, .int .i64 0] 25):=⟨_,rfl⟩
   rw[←hV273] at g271 nb272 ⊢
   clear hV273
   refine wpAnyZ_ready (rs:=[2,6]) (by kernel_rfl) (by simp) ?_
   refine AllReadyZ.cons rfl (by rfl) (fun K hK=>?_) (AllReadyZ.cons rfl (by rfl) (fun K hK=>?_) AllReadyZ.nil)
   ·
    go_simp
    refine (Qx _ g271).mono ?_;rintro e w274 ⟨rfl,hg276⟩
    have g275:=Gr.trans g271 hg276
    have nb277:=nb272.gr hg276
    clear hg276
    go_wp2_with fail
    refine hK.out _ _ (fun hnz=>?s49) (fun _=>?r49)
    case s49=>exact g275
    clear hK K
    try simp only[Pu]
    refine wpAnyZ_ready (rs:=[5,6]) (by kernel_rfl) (by simp) ?_
    refine AllReadyZ.cons rfl (by rfl) (fun K hK=>?_) (AllReadyZ.cons rfl (by rfl) (fun K hK=>?_) AllReadyZ.nil)
    ·
     go_simp
     refine (Qy _ g275).mono ?_;rintro e w278 ⟨rfl,hg280⟩
     have g279:=Gr.trans g275 hg280
     have nb281:=nb277.gr hg280
     clear hg280
     go_wp2_with fail
     refine hK.out _ _ (fun hnz=>?s50) (fun _=>?r50)
     case s50=>exact g279
     clear hK K
     try simp only[Pu]
     refine zs 6 rfl (fun K hK=>?_)
     have g282:=Gr.alloc g279 (.cells #[.bool false, .int .i64 0] 25)
     have nb283:=NB.new w278 25 g279.size
     have nb284:=nb281.gr (Gr.alloc (Gr.refl _) (.cells #[.bool false, .int .i64 0] 25))
     have hne:V.heap.size≠w278.heap.size:=Nat.ne_of_lt nb281.2.2.2.2.2
     go_wp2_with fail
     refine hK.out _ _ (fun hnz=>?s51) (fun _=>?r51)
     case s51=>exact g282
     clear hK K
     try simp only[Pu]
     obtain ⟨V285,hV285⟩:∃V285,V285=w278.alloc (.cells #[.bool false, .int .i64 0] 25):=⟨_,rfl⟩
     rw[←hV285] at g282 nb284 nb283 ⊢
     clear hV285
     refine zs 8 rfl (fun K hK=>?_)
     obtain ⟨q286,q287,q288,q289,q290,q291⟩:=id nb283
     have nb292:=nb283.set X
     have nb293:=nb284.other X (b':=w278.heap.size) (by first|exact hne|exact hne.symm)
     have g294:=Gr.setCell (Gr.setCell g282 nb283.2.2.2.2.1 (p:=⟨w278.heap.size,0,none⟩) (.bool X.ok)) nb283.2.2.2.2.1 (p:=⟨w278.heap.size,1,none⟩) (.int .i64 X.n)
     go_wp2_with fail
     clear q286 q287 q288 q289 q290 q291
     refine hK.out _ _ (fun hnz=>?s52) (fun _=>?r52)
     case s52=>exact g294
     clear hK K
     try simp only[Pu]
     refine zs 9 rfl (fun K hK=>?_)
     obtain ⟨q295,q296,q297,q298,q299,q300⟩:=id nb293
     have nb301:=nb293.set Y
     have nb302:=nb292.other Y (b':=V.heap.size) (by first|exact hne|exact hne.symm)
     have g303:=Gr.setCell (Gr.setCell g294 nb293.2.2.2.2.1 (p:=⟨V.heap.size,0,none⟩) (.bool Y.ok)) nb293.2.2.2.2.1 (p:=⟨V.heap.size,1,none⟩) (.int .i64 Y.n)
     go_wp2_with fail
     clear q295 q296 q297 q298 q299 q300
     refine hK.out _ _ (fun hnz=>?s53) (fun _=>?r53)
     case s53=>exact absurd rfl hnz
     clear hK K
     try simp only[Pu]
     refine wpAnyZ_done (by kernel_rfl) ?_ _
     go_wp2_with fail
     go_meet
     exact ⟨w278.heap.size,V.heap.size,rfl,rfl,nb302.vat,nb301.vat,g303⟩
    ·
     have g304:=Gr.alloc g275 (.cells #[.bool false, .int .i64 0] 25)
     have nb305:=NB.new w274 25 g275.size
     have nb306:=nb277.gr (Gr.alloc (Gr.refl _) (.cells #[.bool false, .int .i64 0] 25))
     have hne:V.heap.size≠w274.heap.size:=Nat.ne_of_lt nb277.2.2.2.2.2
     go_wp2_with fail
     refine hK.out _ _ (fun hnz=>?s54) (fun _=>?r54)
     case s54=>exact g304
     clear hK K
     try simp only[Pu]
     obtain ⟨V307,hV307⟩:∃V307,V307=w274.alloc (.cells #[.bool false, .int .i64 0] 25):=⟨_,rfl⟩
     rw[←hV307] at g304 nb306 nb305 ⊢
     clear hV307
     refine zs 5 rfl (fun K hK=>?_)
     go_simp
     refine (Qy _ g304).mono ?_;rintro e w308 ⟨rfl,hg310⟩
     have g309:=Gr.trans g304 hg310
     have nb311:=nb306.gr hg310
     have nb312:=nb305.gr hg310
     clear hg310
     go_wp2_with fail
     refine hK.out _ _ (fun hnz=>?s55) (fun _=>?r55)
     case s55=>exact g309
     clear hK K
     try simp only[Pu]
     refine zs 8 rfl (fun K hK=>?_)
     obtain ⟨q313,q314,q315,q316,q317,q318⟩:=id nb312
     have nb319:=nb312.set X
     have nb320:=nb311.other X (b':=w274.heap.size) (by first|exact hne|exact hne.symm)
     have g321:=Gr.setCell (Gr.setCell g309 nb312.2.2.2.2.1 (p:=⟨w274.heap.size,0,none⟩) (.bool X.ok)) nb312.2.2.2.2.1 (p:=⟨w274.heap.size,1,none⟩) (.int .i64 X.n)
     go_wp2_with fail
     clear q313 q314 q315 q316 q317 q318
     refine hK.out _ _ (fun hnz=>?s56) (fun _=>?r56)
     case s56=>exact g321
     clear hK K
     try simp only[Pu]
     refine zs 9 rfl (fun K hK=>?_)
     obtain ⟨q322,q323,q324,q325,q326,q327⟩:=id nb320
     have nb328:=nb320.set Y
     have nb329:=nb319.other Y (b':=V.heap.size) (by first|exact hne|exact hne.symm)
     have g330:=Gr.setCell (Gr.setCell g321 nb320.2.2.2.2.1 (p:=⟨V.heap.size,0,none⟩) (.bool Y.ok)) nb320.2.2.2.2.1 (p:=⟨V.heap.size,1,none⟩) (.int .i64 Y.n)
     go_wp2_with fail
     clear q322 q323 q324 q325 q326 q327
     refine hK.out _ _ (fun hnz=>?s57) (fun _=>?r57)
     case s57=>exact absurd rfl hnz
     clear hK K
     try simp only[Pu]
     refine wpAnyZ_done (by kernel_rfl) ?_ _
     go_wp2_with fail
     go_meet
     exact ⟨w274.heap.size,V.heap.size,rfl,rfl,nb329.vat,nb328.vat,g330⟩
   ·
    have g331:=Gr.alloc g271 (.cells #[.bool false, .int .i64 0] 25)
    have nb332:=NB.new V273 25 g271.size
    have nb333:=nb272.gr (Gr.alloc (Gr.refl _) (.cells #[.bool false, .int .i64 0] 25))
    have hne:V.heap.size≠V273.heap.size:=Nat.ne_of_lt nb272.2.2.2.2.2
    go_wp2_with fail
    refine hK.out _ _ (fun hnz=>?s58) (fun _=>?r58)
    case s58=>exact g331
    clear hK K
    try simp only[Pu]
    obtain ⟨V334,hV334⟩:∃V334,V334=V273.alloc (.cells #[.bool false, .int .i64 0] 25):=⟨_,rfl⟩
    rw[←hV334] at g331 nb333 nb332 ⊢
    clear hV334
    refine zs 2 rfl (fun K hK=>?_)
    go_simp
    refine (Qx _ g331).mono ?_;rintro e w335 ⟨rfl,hg337⟩
    have g336:=Gr.trans g331 hg337
    have nb338:=nb333.gr hg337
    have nb339:=nb332.gr hg337
    clear hg337
    go_wp2_with fail
    refine hK.out _ _ (fun hnz=>?s59) (fun _=>?r59)
    case s59=>exact g336
    clear hK K
    try simp only[Pu]
    refine zs 5 rfl (fun K hK=>?_)
    go_simp
    refine (Qy _ g336).mono ?_;rintro e w340 ⟨rfl,hg342⟩
    have g341:=Gr.trans g336 hg342
    have nb343:=nb338.gr hg342
    have nb344:=nb339.gr hg342
    clear hg342
    go_wp2_with fail
    refine hK.out _ _ (fun hnz=>?s60) (fun _=>?r60)
    case s60=>exact g341
    clear hK K
    try simp only[Pu]
    refine zs 8 rfl (fun K hK=>?_)
    obtain ⟨q345,q346,q347,q348,q349,q350⟩:=id nb344
    have nb351:=nb344.set X
    have nb352:=nb343.other X (b':=V273.heap.size) (by first|exact hne|exact hne.symm)
    have g353:=Gr.setCell (Gr.setCell g341 nb344.2.2.2.2.1 (p:=⟨V273.heap.size,0,none⟩) (.bool X.ok)) nb344.2.2.2.2.1 (p:=⟨V273.heap.size,1,none⟩) (.int .i64 X.n)
    go_wp2_with fail
    clear q345 q346 q347 q348 q349 q350
    refine hK.out _ _ (fun hnz=>?s61) (fun _=>?r61)
    case s61=>exact g353
    clear hK K
    try simp only[Pu]
    refine zs 9 rfl (fun K hK=>?_)
    obtain ⟨q354,q355,q356,q357,q358,q359⟩:=id nb352
    have nb360:=nb352.set Y
    have nb361:=nb351.other Y (b':=V.heap.size) (by first|exact hne|exact hne.symm)
    have g362:=Gr.setCell (Gr.setCell g353 nb352.2.2.2.2.1 (p:=⟨V.heap.size,0,none⟩) (.bool Y.ok)) nb352.2.2.2.2.1 (p:=⟨V.heap.size,1,none⟩) (.int .i64 Y.n)
    go_wp2_with fail
    clear q354 q355 q356 q357 q358 q359
    refine hK.out _ _ (fun hnz=>?s62) (fun _=>?r62)
    case s62=>exact absurd rfl hnz
    clear hK K
    try simp only[Pu]
    refine wpAnyZ_done (by kernel_rfl) ?_ _
    go_wp2_with fail
    go_meet
    exact ⟨V273.heap.size,V.heap.size,rfl,rfl,nb361.vat,nb360.vat,g362⟩
 case rest=>
 obtain ⟨b,c,rfl,rfl,hX,hY,gW⟩:=hcut
 obtain ⟨a0,a1,a2,a3,a4,b0,b1,b2,b3,b4⟩:=HF.out wc gW
 obtain ⟨x0,x1,x2⟩:=id hX
 obtain ⟨y0,y1,y2⟩:=id hY
 have gw2:=Gr.trans gw gW
 have z1:w.heap.size+1<wc.heap.size:=by have:=gW.size;simp at this;omega
 clear HF Qx Qy gw gW hX hY hx hy
 obtain ⟨xo,xn⟩:=X
 obtain ⟨yo,yn⟩:=Y
 simp only at x0 x1 y0 y1
 cases e0:(nm.toList==[115,111,114,116,66,121,78,97,109,101])
 case true=>
  go_wp2
  go_ret
  exact ⟨by simp[aheadB,ltN,e0],gw2⟩
 cases e1:(nm.toList==[115,111,114,116,66,121,77,105,110,105,109,97])
 case true=>
  cases xo<;>cases yo
  case true.true=>
   by_cases hlt:xn<yn
   ·
    go_wp2
    go_ret
    exact ⟨by simp[aheadB,ltV,hlt,e0,e1],gw2⟩
   ·
    go_wp2
    go_ret
    exact ⟨by simp[aheadB,ltV,hlt,e0,e1],gw2⟩
  all_goals
   go_wp2
   go_ret
   exact ⟨by simp[aheadB,ltV,e0,e1],gw2⟩
 cases e2:(nm.toList==[108,111,119,101,115,116,65,118,101,114,97,103,101])
 case true=>
  cases xo<;>cases yo
  case true.true=>
   by_cases hlt:xn<yn
   ·
    go_wp2
    go_ret
    exact ⟨by simp[aheadB,ltV,hlt,e0,e1,e2],gw2⟩
   ·
    go_wp2
    go_ret
    exact ⟨by simp[aheadB,ltV,hlt,e0,e1,e2],gw2⟩
  all_goals
   go_wp2
   go_ret
   exact ⟨by simp[aheadB,ltV,e0,e1,e2],gw2⟩
 cases e3:(nm.toList==[108,111,119,101,115,116,67,117,114,114,101,110,116])
 case true=>
  cases xo<;>cases yo
  case true.true=>
   by_cases hlt:xn<yn
   ·
    go_wp2
    go_ret
    exact ⟨by simp[aheadB,ltV,hlt,e0,e1,e2,e3],gw2⟩
   ·
    go_wp2
    go_ret
    exact ⟨by simp[aheadB,ltV,hlt,e0,e1,e2,e3],gw2⟩
  all_goals
   go_wp2
   go_ret
   exact ⟨by simp[aheadB,ltV,e0,e1,e2,e3],gw2⟩
 cases xo<;>cases yo
 case true.true=>
  by_cases hlt:yn<xn
  ·
   go_wp2
   go_ret
   exact ⟨by simp[aheadB,ltV,hlt,e0,e1,e2,e3],gw2⟩
  ·
   go_wp2
   go_ret
   exact ⟨by simp[aheadB,ltV,hlt,e0,e1,e2,e3],gw2⟩
 all_goals
  go_wp2
  go_ret
  exact ⟨by simp[aheadB,ltV,e0,e1,e2,e3],gw2⟩
end Go.Proofs.YtnphdacibageiaaGreat
