import Derived.Test.YtnphdacibageiaaGreatRunRxRow
import Derived.Test.YtnphdacibageiaaGreatRunFpRow
import Derived.Test.YtnphdacibageiaaGreatRunPkVis
set_option linter.all false
set_option maxRecDepth 1000000
set_option maxHeartbeats 12800000
namespace Go.Proofs.YtnphdacibageiaaGreat
open Go.RowKit
theorem icells_set (code:List In):∀(i:Nat) (h:i<code.length) (x y:Int),((icells code).set (i*4+1) (.int .i64 x)).set (i*4+2) (.int .i64 y)=icells (code.set i ⟨code[i].op,x,y,code[i].ps⟩):=by
 induction code with
 | nil=>intro i h;simp at h
 | cons v l ih=>
  intro i h x y
  match i,h with
  | 0,_=>rfl
  | i+1,h=>
   have h':i<l.length:=by simpa using h
   have e1:(i+1)*4+1=(i*4+1)+1+1+1+1:=by omega
   have e2:(i+1)*4+2=(i*4+2)+1+1+1+1:=by omega
   rw[icells_cons,e1,e2]
   simp only[List.set_cons_succ,List.getElem_cons_succ,icells_cons]
   rw[ih i h' x y]
def SpS (B g n c i:Nat) (W:World):Prop:=W.cell? ⟨B,0,none⟩=some (.slice (some ⟨g,0,none⟩) n c)∧(∀j,W.frozen? ⟨g,j,none⟩=false)∧(∃u,W.cell? ⟨g,i*4+1,none⟩=some u)∧∃u,W.cell? ⟨g,i*4+2,none⟩=some u
theorem SpS.set {B g n c i:Nat} {W:World} (h:SpS B g n c i W) (hB:B≠g) (u:Value):SpS B g n c i (W.setCell ⟨g,i*4+1,none⟩ u):=by
 obtain ⟨h0,h1,⟨u1,h2⟩,u2,h3⟩:=h
 refine ⟨(World.cell?_setCell_other W _ ⟨B,0,none⟩ _ (by first|(simp;done)|(simp;omega))).trans h0,fun j=>by rw[World.frozen?_setCell];exact h1 j,?_,u2,(World.cell?_setCell_other W _ ⟨g,i*4+2,none⟩ _ (by first|(simp;done)|(simp;omega))).trans h3⟩
 exact ⟨u,by go_simp⟩
theorem WrtA.form {w:World} {B:Nat} {A:Option Addr} {code:List In} (h:WrtA w B A code) (h0:0<code.length):∃g,A=some ⟨g,0,none⟩:=by
 obtain ⟨c,_,_,own,_⟩:=h
 obtain ⟨_,⟨_,h0'⟩|⟨g',cap,cur,hv,_⟩⟩:=own
 ·
  omega
 ·
  injection hv with hv1 _ _
  exact ⟨g',hv1⟩
theorem splits_false {w:World} {B:Nat} {A:Option Addr} {code:List In} (h:WrtA w B A code) (hb:code.length≤4096) (i:Nat) (hi:i<code.length) (x y:Int) :
  Calls Tryz.prog 81 #[.pointer (some ⟨B,0,none⟩), .int .i64 i, .int .i64 x, .int .i64 y, .bool false] w fun e w'=>e= .returned (.tuple #[])∧WrtA w' B A (code.set i ⟨code[i].op,x,y,code[i].ps⟩)∧WX B w (blk A) w' (blk A):=by
 obtain ⟨g,rfl⟩:=h.form (by omega)
 obtain ⟨c,h1,h2,own,h4⟩:=h
 obtain ⟨hgl,hgs⟩:=own.lt g rfl
 have hn4:=own.1
 obtain ⟨n,hn⟩:∃n,n=code.length:=⟨_,rfl⟩
 have hin:i<n:=by omega
 have hi':(i:Int)<n:=by omega
 obtain ⟨res,hres⟩:∃res,code.set i ⟨code[i].op,x,y,code[i].ps⟩=res:=⟨_,rfl⟩
 rw[hres]
 have hrl:res.length=n:=by rw[←hres,hn];simp
 have hst:=icells_set code i hi x y
 rw[hres] at hst
 rw[←hn] at h1 own hn4
 obtain ⟨cs,hcs⟩:∃cs,icells code=cs:=⟨_,rfl⟩
 rw[hcs] at own hn4 hst
 obtain ⟨cr,hcr⟩:∃cr,icells res=cr:=⟨_,rfl⟩
 rw[hcr] at hst
 have Hst:=Lib.hid hst
 have Hcr:=Lib.hid hcr
 have Hrl:=Lib.hid hrl
 obtain ⟨u1,hu1⟩:∃u,w.cell? ⟨g,i*4+1,none⟩=some u:=by
  have:=own.cellAt (i*4+1) (by omega)
  rw[List.getElem?_eq_getElem (by omega)] at this
  exact ⟨_,this⟩
 obtain ⟨u2,hu2⟩:∃u,w.cell? ⟨g,i*4+2,none⟩=some u:=by
  have:=own.cellAt (i*4+2) (by omega)
  rw[List.getElem?_eq_getElem (by omega)] at this
  exact ⟨_,this⟩
 have hf1:=own.frozenAt (i*4+1)
 have hf2:=own.frozenAt (i*4+2)
 have hfa:=own.frozenAt
 have Hown:=Lib.hid own
 clear hn hres hn4 hst hcr hcs hrl own hi hb
 go_enter Tryz.func81,Tryz.ntmps81
 go_upto_region 2 with (fail)
 have hS0:SpS B g n c i w.drew:=⟨h1,hfa,⟨u1,hu1⟩,⟨u2,hu2⟩⟩
 refine wp_region_Z 17 (SpS B g n c i) (by kernel_rfl) ?_
 have hBg:B≠g:=by omega
 clear hfa h1
 refine zu 0 rfl hS0 (fun W hS=>by go_simp;rfl) ?_
 refine zu 1 rfl hS0 (fun W hS=>by go_simp;rfl) ?_
 refine zu 2 rfl hS0 (fun W hS=>by go_simp;rfl) ?_
 refine zu 3 rfl hS0 (fun W hS=>by obtain ⟨s0, -, -, -⟩:=hS;go_simp;rfl) ?_
 refine zu 4 rfl hS0 (fun W hS=>by go_simp;rfl) ?_
 refine zu 5 rfl hS0 (fun W hS=>by go_simp;rfl) ?_
 refine zu 6 rfl hS0 (fun W hS=>by go_simp;rfl) ?_
 refine zu 7 rfl hS0 (fun W hS=>by go_simp;rfl) ?_
 refine zu 8 rfl hS0 (fun W hS=>by obtain ⟨s0, -, -, -⟩:=hS;go_simp;rfl) ?_
 refine zu 9 rfl hS0 (fun W hS=>by go_simp;rfl) ?_
 refine zu 10 rfl hS0 (fun W hS=>by go_simp;rfl) ?_
 refine zu 11 rfl hS0 (fun W hS=>by go_simp;rfl) ?_
 refine zu 12 rfl hS0 (fun W hS=>by go_simp;rfl) ?_
 refine zu 13 rfl hS0 (fun W hS=>by go_simp;rfl) ?_
 refine wpAnyZ_ready (rs:=[14]) (by kernel_rfl) (by simp) ?_
 refine AllReadyZ.cons (i:=14) rfl (by kernel_rfl) ?x314 AllReadyZ.nil
 intro K hK
 simp only[List.getElem_toArray,List.getElem_cons_succ,List.getElem_cons_zero]
 refine wp_store_cell _ _ _ rfl ⟨g,i*4+1,none⟩ (.int .i64 x) u1 ?a1 ?a2 hu1 hf1 (by kernel_rfl) rfl ?a3
 case a1=>first|rfl|(simp[Act.eval,Addr.add];done)
 case a2=>first|rfl|(simp[Act.eval];done)
 refine hK.out _ _ (fun _=>?zs1) (fun _=>?zr1)
 case zs1=>exact SpS.set hS0 hBg _
 clear hK K
 simp only[Pu,List.getElem_toArray,List.getElem_cons_succ,List.getElem_cons_zero]
 have hS1:=SpS.set hS0 hBg (.int .i64 x)
 obtain ⟨V1,hV1⟩:∃V1,V1=w.drew.setCell ⟨g,i*4+1,none⟩ (.int .i64 x):=⟨_,rfl⟩
 rw[←hV1] at hS1 ⊢
 refine zu 15 rfl hS1 (fun W hS=>by go_simp;rfl) ?_
 refine zu 16 rfl hS1 (fun W hS=>by go_simp;rfl) ?_
 refine wpAnyZ_ready (rs:=[17]) (by kernel_rfl) (by simp) ?_
 refine AllReadyZ.cons (i:=17) rfl (by kernel_rfl) ?x317 AllReadyZ.nil
 intro K hK
 simp only[List.getElem_toArray,List.getElem_cons_succ,List.getElem_cons_zero]
 obtain ⟨u2',hu2'⟩:=hS1.2.2.2
 refine wp_store_cell _ _ _ rfl ⟨g,i*4+2,none⟩ (.int .i64 y) u2' ?b1 ?b2 hu2' (hS1.2.1 _) (by kernel_rfl) rfl ?b3
 case b1=>first|rfl|(simp[Act.eval,Addr.add];done)
 case b2=>first|rfl|(simp[Act.eval];done)
 refine hK.out _ _ (fun hnz=>absurd rfl hnz) (fun _=>?zr2)
 clear hK K
 simp only[Pu,List.getElem_toArray,List.getElem_cons_succ,List.getElem_cons_zero]
 refine wpAnyZ_done (by kernel_rfl) ?_ _
 subst hV1
 go_wp2
 go_end0
 have own:=Hown.out
 obtain ⟨o1, -⟩:=own.drew.stored (i*4+1) (.int .i64 x)
 obtain ⟨o2, -⟩:=o1.stored (i*4+2) (.int .i64 y)
 rw[Hst.out,←Hcr.out] at o2
 refine ⟨rfl,⟨c,?_,?_,?_,?_⟩,((WX.gr (some g) (Gr.drew (Gr.refl w))).set (p:=⟨g,i*4+1,none⟩) (.inr rfl) _).set (p:=⟨g,i*4+2,none⟩) (.inr rfl) _⟩
 ·
  rw[Hrl.out]
  exact (World.cell?_setCell_other _ _ ⟨B,0,none⟩ _ (by first|(simp;done)|(simp;omega))).trans ((World.cell?_setCell_other _ _ ⟨B,0,none⟩ _ (by first|(simp;done)|(simp;omega))).trans hS0.1)
 ·
  rw[World.frozen?_setCell,World.frozen?_setCell];exact h2
 ·
  rw[Hrl.out];exact o2
 ·
  simpa using h4
theorem splits_true {w:World} {B:Nat} {A:Option Addr} {code:List In} (h:WrtA w B A code) (hb:code.length≤4096) (i:Nat) (hi:i<code.length) (x y:Int) :
  Calls Tryz.prog 81 #[.pointer (some ⟨B,0,none⟩), .int .i64 i, .int .i64 x, .int .i64 y, .bool true] w fun e w'=>e= .returned (.tuple #[])∧WrtA w' B A (code.set i ⟨code[i].op,y,x,code[i].ps⟩)∧WX B w (blk A) w' (blk A):=by
 obtain ⟨g,rfl⟩:=h.form (by omega)
 obtain ⟨c,h1,h2,own,h4⟩:=h
 obtain ⟨hgl,hgs⟩:=own.lt g rfl
 have hn4:=own.1
 obtain ⟨n,hn⟩:∃n,n=code.length:=⟨_,rfl⟩
 have hin:i<n:=by omega
 have hi':(i:Int)<n:=by omega
 obtain ⟨res,hres⟩:∃res,code.set i ⟨code[i].op,y,x,code[i].ps⟩=res:=⟨_,rfl⟩
 rw[hres]
 have hrl:res.length=n:=by rw[←hres,hn];simp
 have hst:=icells_set code i hi y x
 rw[hres] at hst
 rw[←hn] at h1 own hn4
 obtain ⟨cs,hcs⟩:∃cs,icells code=cs:=⟨_,rfl⟩
 rw[hcs] at own hn4 hst
 obtain ⟨cr,hcr⟩:∃cr,icells res=cr:=⟨_,rfl⟩
 rw[hcr] at hst
 have Hst:=Lib.hid hst
 have Hcr:=Lib.hid hcr
 have Hrl:=Lib.hid hrl
 obtain ⟨u1,hu1⟩:∃u,w.cell? ⟨g,i*4+1,none⟩=some u:=by
  have:=own.cellAt (i*4+1) (by omega)
  rw[List.getElem?_eq_getElem (by omega)] at this
  exact ⟨_,this⟩
 obtain ⟨u2,hu2⟩:∃u,w.cell? ⟨g,i*4+2,none⟩=some u:=by
  have:=own.cellAt (i*4+2) (by omega)
  rw[List.getElem?_eq_getElem (by omega)] at this
  exact ⟨_,this⟩
 have hf1:=own.frozenAt (i*4+1)
 have hf2:=own.frozenAt (i*4+2)
 have hfa:=own.frozenAt
 have Hown:=Lib.hid own
 clear hn hres hn4 hst hcr hcs hrl own hi hb
 go_enter Tryz.func81,Tryz.ntmps81
 go_upto_region 2 with (fail)
 have hS0:SpS B g n c i w.drew:=⟨h1,hfa,⟨u1,hu1⟩,⟨u2,hu2⟩⟩
 refine wp_region_Z 17 (SpS B g n c i) (by kernel_rfl) ?_
 have hBg:B≠g:=by omega
 clear hfa h1
 refine zu 0 rfl hS0 (fun W hS=>by go_simp;rfl) ?_
 refine zu 1 rfl hS0 (fun W hS=>by go_simp;rfl) ?_
 refine zu 2 rfl hS0 (fun W hS=>by go_simp;rfl) ?_
 refine zu 3 rfl hS0 (fun W hS=>by obtain ⟨s0, -, -, -⟩:=hS;go_simp;rfl) ?_
 refine zu 4 rfl hS0 (fun W hS=>by go_simp;rfl) ?_
 refine zu 5 rfl hS0 (fun W hS=>by go_simp;rfl) ?_
 refine zu 6 rfl hS0 (fun W hS=>by go_simp;rfl) ?_
 refine zu 7 rfl hS0 (fun W hS=>by go_simp;rfl) ?_
 refine zu 8 rfl hS0 (fun W hS=>by obtain ⟨s0, -, -, -⟩:=hS;go_simp;rfl) ?_
 refine zu 9 rfl hS0 (fun W hS=>by go_simp;rfl) ?_
 refine zu 10 rfl hS0 (fun W hS=>by go_simp;rfl) ?_
 refine zu 11 rfl hS0 (fun W hS=>by go_simp;rfl) ?_
 refine zu 12 rfl hS0 (fun W hS=>by go_simp;rfl) ?_
 refine zu 13 rfl hS0 (fun W hS=>by go_simp;rfl) ?_
 refine wpAnyZ_ready (rs:=[14]) (by kernel_rfl) (by simp) ?_
 refine AllReadyZ.cons (i:=14) rfl (by kernel_rfl) ?x314 AllReadyZ.nil
 intro K hK
 simp only[List.getElem_toArray,List.getElem_cons_succ,List.getElem_cons_zero]
 refine wp_store_cell _ _ _ rfl ⟨g,i*4+1,none⟩ (.int .i64 y) u1 ?a1 ?a2 hu1 hf1 (by kernel_rfl) rfl ?a3
 case a1=>first|rfl|(simp[Act.eval,Addr.add];done)
 case a2=>first|rfl|(simp[Act.eval];done)
 refine hK.out _ _ (fun _=>?zs1) (fun _=>?zr1)
 case zs1=>exact SpS.set hS0 hBg _
 clear hK K
 simp only[Pu,List.getElem_toArray,List.getElem_cons_succ,List.getElem_cons_zero]
 have hS1:=SpS.set hS0 hBg (.int .i64 y)
 obtain ⟨V1,hV1⟩:∃V1,V1=w.drew.setCell ⟨g,i*4+1,none⟩ (.int .i64 y):=⟨_,rfl⟩
 rw[←hV1] at hS1 ⊢
 refine zu 15 rfl hS1 (fun W hS=>by go_simp;rfl) ?_
 refine zu 16 rfl hS1 (fun W hS=>by go_simp;rfl) ?_
 refine wpAnyZ_ready (rs:=[17]) (by kernel_rfl) (by simp) ?_
 refine AllReadyZ.cons (i:=17) rfl (by kernel_rfl) ?x317 AllReadyZ.nil
 intro K hK
 simp only[List.getElem_toArray,List.getElem_cons_succ,List.getElem_cons_zero]
 obtain ⟨u2',hu2'⟩:=hS1.2.2.2
 refine wp_store_cell _ _ _ rfl ⟨g,i*4+2,none⟩ (.int .i64 x) u2' ?b1 ?b2 hu2' (hS1.2.1 _) (by kernel_rfl) rfl ?b3
 case b1=>first|rfl|(simp[Act.eval,Addr.add];done)
 case b2=>first|rfl|(simp[Act.eval];done)
 refine hK.out _ _ (fun hnz=>absurd rfl hnz) (fun _=>?zr2)
 clear hK K
 simp only[Pu,List.getElem_toArray,List.getElem_cons_succ,List.getElem_cons_zero]
 refine wpAnyZ_done (by kernel_rfl) ?_ _
 subst hV1
 go_wp2
 go_end0
 have own:=Hown.out
 obtain ⟨o1, -⟩:=own.drew.stored (i*4+1) (.int .i64 y)
 obtain ⟨o2, -⟩:=o1.stored (i*4+2) (.int .i64 x)
 rw[Hst.out,←Hcr.out] at o2
 refine ⟨rfl,⟨c,?_,?_,?_,?_⟩,((WX.gr (some g) (Gr.drew (Gr.refl w))).set (p:=⟨g,i*4+1,none⟩) (.inr rfl) _).set (p:=⟨g,i*4+2,none⟩) (.inr rfl) _⟩
 ·
  rw[Hrl.out]
  exact (World.cell?_setCell_other _ _ ⟨B,0,none⟩ _ (by first|(simp;done)|(simp;omega))).trans ((World.cell?_setCell_other _ _ ⟨B,0,none⟩ _ (by first|(simp;done)|(simp;omega))).trans hS0.1)
 ·
  rw[World.frozen?_setCell,World.frozen?_setCell];exact h2
 ·
  rw[Hrl.out];exact o2
 ·
  simpa using h4
def RetW (w:World) (B:Nat) (A:Option Addr) (res:List In) (e:Ending) (w':World):Prop:=
 e= .returned (.tuple #[])∧∃A',WrtA w' B A' res∧WX B w (blk A) w' (blk A')
theorem Rd.inst (w:World) (v:In):Rd (w.alloc (.cells #[.int .i64 v.op, .int .i64 v.x, .int .i64 v.y, .string ⟨v.ps.toArray⟩] 85)) 4 (some ⟨w.heap.size,0,none⟩) 1 (icells [v]):=by
 refine ⟨rfl,fun _=>⟨_,rfl,by simp,fun j u hu=>?_⟩⟩
 have:=(World.ownsRow_lit (base:=0) (e:=85) (size:=4) w #[.int .i64 v.op, .int .i64 v.x, .int .i64 v.y, .string ⟨v.ps.toArray⟩] 1 (Nat.zero_le _) (by decide) rfl).cells (g:=w.heap.size) rfl j u (by simpa [icells] using hu)
 exact this
theorem lays_one {w:World} {B:Nat} {A:Option Addr} {code:List In} (h:WrtA w B A code) (v:In) (hb:code.length≤4000) :
  Calls Tryz.prog 46 #[.pointer (some ⟨B,0,none⟩), .slice (some ⟨w.heap.size,0,none⟩) 1 1] (w.alloc (.cells #[.int .i64 v.op, .int .i64 v.x, .int .i64 v.y, .string ⟨v.ps.toArray⟩] 85)) fun e w'=>e= .returned (.int .i64 code.length)∧∃A',WrtA w' B A' (code++[v])∧WX B w (blk A) w' (blk A'):=by
 have g:=Gr.alloc (Gr.refl w) (.cells #[.int .i64 v.op, .int .i64 v.x, .int .i64 v.y, .string ⟨v.ps.toArray⟩] 85)
 refine (lays_any (h.gr g) _ 1 1 [v] rfl (by decide) (Rd.inst w v) (by omega)).mono ?_
 rintro e w' ⟨he,A',h1,h2⟩
 exact ⟨he,A',h1,(WX.gr _ g).trans h2⟩
theorem put_leaf {w:World} {B:Nat} {A:Option Addr} {code:List In} (hB:WrtA w B A code) (hl:code.length≤1020) {b op:Nat} {ps:List UInt8} (hop:op<10) (hbs:b<w.heap.size) (hn:Node w b op ps (.slice none 0 0) 0 false) :
  Calls Tryz.prog 47 #[.pointer (some ⟨B,0,none⟩), .pointer (some ⟨b,0,none⟩)] w (RetW w B A (code++[⟨op,0,0,ps⟩])):=by
 obtain ⟨n0,n1,n2,n3,n4⟩:=hn
 have hful:decide (1024<(code.length:Int))=false:=by simp;omega
 have t10:((op:Int)==10)=false:=by simp;omega
 have t11:((op:Int)==11)=false:=by simp;omega
 have t12:((op:Int)==12)=false:=by simp;omega
 have t42:((op:Int)==42)=false:=by simp;omega
 have t43:((op:Int)==43)=false:=by simp;omega
 have t63:((op:Int)==63)=false:=by simp;omega
 obtain ⟨L,hL⟩:∃L,L=code.length:=⟨_,rfl⟩
 go_enter Tryz.func47,Tryz.ntmps47
 go_upto_region 2 with (go_at_call 48;refine (full_any hB).mono ?_;rintro e w1 ⟨rfl,rfl⟩)
 clear t10 t11 t12 t42 t43 t63 hful n2 n3 n4
 have hS0:Gr w w.drew:=Gr.drew (Gr.refl w)
 refine wp_region_Z 11 (fun W=>Gr w W) (by kernel_rfl) ?_
 refine zu 0 rfl hS0 (fun W hS=>by go_simp;rfl) ?_
 refine zu 1 rfl hS0 (fun W hS=>by go_simp;rfl) ?_
 refine zu 2 rfl hS0 (fun W hS=>by go_simp;rfl) ?_
 refine zu 3 rfl hS0 (fun W hS=>by go_simp;rfl) ?_
 refine zu 4 rfl hS0 (fun W hS=>by have g0:=(Below.cell hS (p:=⟨b,0,none⟩) hbs).trans n0;go_simp;rfl) ?_
 refine zu 5 rfl hS0 (fun W hS=>by go_simp;rfl) ?_
 refine zu 6 rfl hS0 (fun W hS=>by go_simp;rfl) ?_
 refine zu 7 rfl hS0 (fun W hS=>by go_simp;rfl) ?_
 refine zu 8 rfl hS0 (fun W hS=>by have g1:=(Below.cell hS (p:=⟨b,1,none⟩) hbs).trans n1;go_simp;rfl) ?_
 refine zu 9 rfl hS0 (fun W hS=>by go_simp;rfl) ?_
 clear n0 n1
 refine wpAnyZ_ready (rs:=[10]) (by kernel_rfl) (by simp) ?_
 refine AllReadyZ.cons (i:=10) rfl (by kernel_rfl) ?x310 AllReadyZ.nil
 intro K hK
 simp only[List.getElem_toArray,List.getElem_cons_succ,List.getElem_cons_zero]
 go_simp
 refine hK.out _ _ (fun _=>?zs1) (fun _=>?zr1)
 case zs1=>exact Gr.alloc hS0 _
 clear hK K
 try (simp only[Pu,List.getElem_toArray,List.getElem_cons_succ,List.getElem_cons_zero])
 refine wpAnyZ_ready (rs:=[11]) (by kernel_rfl) (by simp) ?_
 refine AllReadyZ.cons (i:=11) rfl (by kernel_rfl) ?x311 AllReadyZ.nil
 intro K hK
 simp only[List.getElem_toArray,List.getElem_cons_succ,List.getElem_cons_zero]
 go_simp
 have hB1:=hB.gr hS0
 refine (lays_one hB1 ⟨op,0,0,ps⟩ (by omega)).mono ?_
 rintro e w' ⟨rfl,A',k1,k2⟩
 go_wp2_with fail
 refine hK.out _ _ (fun hnz=>absurd rfl hnz) (fun _=>?zr2)
 clear hK K
 try (simp only[Pu,List.getElem_toArray,List.getElem_cons_succ,List.getElem_cons_zero])
 refine wpAnyZ_done (by kernel_rfl) ?_ _
 go_wp2
 go_end0
 exact ⟨rfl,A',k1,(WX.gr _ hS0).trans k2⟩
theorem Rkn.kid {lo hi bk:Nat} {w:World} {kids:Value} (h:Rkn lo hi w kids [bk]):∃ad c,kids= .slice (some ad) 1 c∧lo<ad.block∧ad.block<hi∧w.cell? ad=some (.pointer (some ⟨bk,0,none⟩)):=by
 obtain ⟨A,c,e,hr,hb⟩:=h
 obtain ⟨ad,rfl,_,hc⟩:=hr.2 (by simp)
 obtain ⟨h0,h1⟩:=hb (by simp) ad rfl
 exact ⟨ad,c,e,h0,h1,hc 0 _ rfl⟩
theorem Same.at_ {lo hi:Nat} {w w':World} (h:Same lo hi w w') {p:Addr} (h0:lo<p.block) (h1:p.block<hi) {u:Value} (hc:w.cell? p=some u):w'.cell? p=some u:=(World.cell?_of_block (h.2 _ h0 h1)).trans hc
theorem Same.trans {lo hi:Nat} {w w1 w2:World} (h:Same lo hi w w1) (k:Same lo hi w1 w2):Same lo hi w w2:=⟨k.1,fun i h0 h1=>(k.2 i h0 h1).trans (h.2 i h0 h1)⟩
theorem WrtA.same {w w':World} {B lo hi:Nat} {A:Option Addr} {g':Option Nat} {code:List In} (h:WrtA w B A code) (x:WX B w (blk A) w' g') (hB:hi≤B):Same lo hi w w':=
 x.same hB (fun k hk=>Nat.le_of_lt (h.row k hk).1) h.lt
def KidP (lo hi B bk:Nat) (w:World) (k:Pc) (n:Nat):Prop:=
 ∀(w1:World) (A1:Option Addr) (code1:List In),WrtA w1 B A1 code1→Same lo hi w w1→code1.length=n→
  Calls Tryz.prog 47 #[.pointer (some ⟨B,0,none⟩), .pointer (some ⟨bk,0,none⟩)] w1 (RetW w1 B A1 (code1++k.lay n))
theorem put_group0 {w:World} {B lo hi:Nat} {A:Option Addr} {code:List In} (hB:WrtA w B A code) {b bk:Nat} {kids:Value} {k:Pc} (hl:code.length+k.sz≤1016) (h0:lo<b) (h1:b<hi) (h2:hi≤B) (hr:Rkn lo hi w kids [bk]) (hn:Node w b 12 [] kids 0 false) (HK:KidP lo hi B bk w k code.length) :
  Calls Tryz.prog 47 #[.pointer (some ⟨B,0,none⟩), .pointer (some ⟨b,0,none⟩)] w (RetW w B A (code++k.lay code.length)):=by
 obtain ⟨ad,ac,rfl,a0,a1,ha⟩:=hr.kid
 have Ha:=Lib.hid ha
 have hful:decide (1024<(code.length:Int))=false:=by simp;omega
 obtain ⟨n0,n1,n2,n3,n4⟩:=id hn
 go_enter Tryz.func47,Tryz.ntmps47
 go_upto_region 14 with (go_at_call 48;refine (full_any hB).mono ?_;rintro e w1 ⟨rfl,rfl⟩)
 have Hh:=Lib.hid hn
 clear hful hn
 go_upto_region 15 with (go_at_call 47;refine (HK w A code hB ⟨by have:=hB.lt;omega,fun _ _ _=>rfl⟩ rfl).mono ?_;rintro e w2 ⟨rfl,A2,hB2,hX2⟩)
 have hS2:=hB.same (lo:=lo) hX2 h2
 have hn:=Hh.out
 obtain ⟨m0,m1,m2,m3,m4⟩:=hS2.node h0 h1 hn
 have ha2:=hS2.at_ a0 a1 Ha.out
 clear n0 n1 n2 n3 n4 ha hn HK
 have Hx:=Lib.hid (And.intro hB2 hX2)
 clear hB2 hX2
 go_wp2
 go_end0
 exact ⟨rfl,A2,Hx.out.1,Hx.out.2⟩
theorem put_group {w:World} {B lo hi:Nat} {A:Option Addr} {code:List In} (hB:WrtA w B A code) {b bk:Nat} {kids:Value} {k:Pc} {g:Nat} (hg:0<g) (hg5:g≤5000) (hl:code.length+k.sz≤1016) (h0:lo<b) (h1:b<hi) (h2:hi≤B) (hr:Rkn lo hi w kids [bk]) (hn:Node w b 12 [] kids g false) (HK:KidP lo hi B bk w k (code.length+1)) :
  Calls Tryz.prog 47 #[.pointer (some ⟨B,0,none⟩), .pointer (some ⟨b,0,none⟩)] w (RetW w B A (code++⟨4,2*g,0,[]⟩::(k.lay (code.length+1)++[⟨4,2*g+1,0,[]⟩]))):=by
 obtain ⟨ad,ac,rfl,a0,a1,ha⟩:=hr.kid
 have Ha:=Lib.hid ha
 have hful:decide (1024<(code.length:Int))=false:=by simp;omega
 obtain ⟨n0,n1,n2,n3,n4⟩:=id hn
 go_enter Tryz.func47,Tryz.ntmps47
 go_upto_region 13 with (go_at_call 48;refine (full_any hB).mono ?_;rintro e w1 ⟨rfl,rfl⟩)
 have Hh:=Lib.hid hn
 clear hful hn
 go_upto_region 14 with (go_at_call 46;refine (lays_one hB ⟨4,2*g,0,[]⟩ (by omega)).mono ?_;rintro e w2 ⟨rfl,A2,hB2,hX2⟩)
 have hS2:=hB.same (lo:=lo) hX2 h2
 have hn:=Hh.out
 obtain ⟨m0,m1,m2,m3,m4⟩:=hS2.node h0 h1 hn
 have ha2:=hS2.at_ a0 a1 Ha.out
 clear n0 n1 n2 n3 n4 ha hn
 obtain ⟨code2,hc2⟩:∃c,c=code++[⟨4,2*g,0,[]⟩]:=⟨_,rfl⟩
 rw[←hc2] at hB2
 have hl2:code2.length=code.length+1:=by rw[hc2];simp
 have Hl2:=Lib.hid hl2
 have Hc2:=Lib.hid hc2
 clear hl2 hc2
 go_upto_region 15 with (go_at_call 47;refine (HK _ A2 code2 hB2 hS2 Hl2.out).mono ?_;rintro e w3 ⟨rfl,A3,hB3,hX3⟩)
 have hS3:=hS2.trans (hB2.same (lo:=lo) hX3 h2)
 have hn:=Hh.out
 clear m0 m1 m2 m3 m4 ha2 HK
 obtain ⟨m0,m1,m2,m3,m4⟩:=hS3.node h0 h1 hn
 have ha3:=hS3.at_ a0 a1 Ha.out
 clear ha3 hn
 obtain ⟨code3,hc3⟩:∃c,c=code2++k.lay (code.length+1):=⟨_,rfl⟩
 rw[←hc3] at hB3
 have hl3:code3.length≤code.length+1+k.sz:=by rw[hc3,List.length_append,Hl2.out,Pc.lay_len];exact Nat.le_refl _
 have Hc3:=Lib.hid hc3
 clear hc3
 go_wp2_with (go_at_call 46;refine (lays_one hB3 ⟨4,2*g+1,0,[]⟩ (by omega)).mono ?_;rintro e w4 ⟨rfl,A4,hB4,hX4⟩)
 go_end0
 refine ⟨rfl,A4,?_,(hX2.trans hX3).trans hX4⟩
 rw[Hc3.out,Hc2.out] at hB4
 simpa using hB4
theorem set_split {code code4 l:List In} {v:In} (hc:code4=code++v::l) {L:Nat} (hL:L=code.length) (h:L<code4.length) (X Y:Int):code4.set L ⟨code4[L].op,X,Y,code4[L].ps⟩=code++⟨v.op,X,Y,v.ps⟩::l:=by
 subst hc hL
 simp[List.set_append]
theorem put_star_false {w:World} {B lo hi:Nat} {A:Option Addr} {code:List In} (hB:WrtA w B A code) {b bk:Nat} {kids:Value} {k:Pc} (hl:code.length+k.sz≤1016) (h0:lo<b) (h1:b<hi) (h2:hi≤B) (hr:Rkn lo hi w kids [bk]) (hn:Node w b 42 [] kids 0 false) (HK:KidP lo hi B bk w k (code.length+1)) :
  Calls Tryz.prog 47 #[.pointer (some ⟨B,0,none⟩), .pointer (some ⟨b,0,none⟩)] w (RetW w B A (code++splitI false (code.length+1) (code.length+k.sz+2)::(k.lay (code.length+1)++[⟨3,code.length,0,[]⟩]))):=by
 obtain ⟨ad,ac,rfl,a0,a1,ha⟩:=hr.kid
 have Ha:=Lib.hid ha
 have hful:decide (1024<(code.length:Int))=false:=by simp;omega
 obtain ⟨n0,n1,n2,n3,n4⟩:=id hn
 go_enter Tryz.func47,Tryz.ntmps47
 go_upto_region 18 with (go_at_call 48;refine (full_any hB).mono ?_;rintro e w1 ⟨rfl,rfl⟩)
 have Hh:=Lib.hid hn
 clear hful hn
 go_upto_region 19 with (go_at_call 46;refine (lays_one hB ⟨2,0,0,[]⟩ (by omega)).mono ?_;rintro e w2 ⟨rfl,A2,hB2,hX2⟩)
 have hS2:=hB.same (lo:=lo) hX2 h2
 have hn:=Hh.out
 obtain ⟨m0,m1,m2,m3,m4⟩:=hS2.node h0 h1 hn
 have ha2:=hS2.at_ a0 a1 Ha.out
 clear n0 n1 n2 n3 n4 ha hn
 obtain ⟨code2,hc2⟩:∃c,c=code++[⟨2,0,0,[]⟩]:=⟨_,rfl⟩
 rw[←hc2] at hB2
 have hl2:code2.length=code.length+1:=by rw[hc2];simp
 have Hl2:=Lib.hid hl2
 have Hc2:=Lib.hid hc2
 clear hl2 hc2
 go_upto_region 20 with (go_at_call 47;refine (HK _ A2 code2 hB2 hS2 Hl2.out).mono ?_;rintro e w3 ⟨rfl,A3,hB3,hX3⟩)
 have hS3:=hS2.trans (hB2.same (lo:=lo) hX3 h2)
 clear m0 m1 m2 m3 m4 ha2 HK
 obtain ⟨code3,hc3⟩:∃c,c=code2++k.lay (code.length+1):=⟨_,rfl⟩
 rw[←hc3] at hB3
 have hl3:code3.length=code.length+1+k.sz:=by rw[hc3,List.length_append,Hl2.out,Pc.lay_len]
 have hl3':code3.length≤code.length+1+k.sz:=Nat.le_of_eq hl3
 have Hl3:=Lib.hid hl3
 have Hc3:=Lib.hid hc3
 clear hc3 hl3
 go_upto_region 21 with (go_at_call 46;refine (lays_one hB3 ⟨3,code.length,0,[]⟩ (by omega)).mono ?_;rintro e w4 ⟨rfl,A4,hB4,hX4⟩)
 have hS4:=hS3.trans (hB3.same (lo:=lo) hX4 h2)
 have hn:=Hh.out
 obtain ⟨m0,m1,m2,m3,m4⟩:=hS4.node h0 h1 hn
 have ha4:=hS4.at_ a0 a1 Ha.out
 clear ha4 hn m0 m1 m2 m3 hl3'
 obtain ⟨code4,hc4⟩:∃c,c=code3++[⟨3,code.length,0,[]⟩]:=⟨_,rfl⟩
 rw[←hc4] at hB4
 obtain ⟨N,hN⟩:∃N,N=code4.length:=⟨_,rfl⟩
 have hN':N=code.length+k.sz+2:=by rw[hN,hc4,List.length_append,Hl3.out];simp;omega
 have hN4:N≤1020:=by omega
 have hLN:code.length<N:=by omega
 obtain ⟨c4,hw4,hB4'⟩:∃c,w4.cell? ⟨B,0,none⟩=some (.slice A4 N c)∧WrtA w4 B A4 code4:=by
  obtain ⟨c,h5,h6⟩:=id hB4
  rw[←hN] at h5
  exact ⟨c,h5,hB4⟩
 obtain ⟨L,hL⟩:∃L,L=code.length:=⟨_,rfl⟩
 have hb4:b<w4.heap.size:=by have:=hS4.1;omega
 have hLw:IntKind.i64.wrap ((L:Int)+1)=(L:Int)+1:=IntWalk.i64_in _ (by omega)
 rw[←hL] at hLN ⊢
 have HL:=Lib.hid hL
 have HN:=Lib.hid (And.intro hN hN')
 have Hc4:=Lib.hid hc4
 clear hN hN' hc4 hL hl
 refine region_T 13 (by kernel_rfl) (by kernel_rfl) ?_
 simp only[List.take]
 iterate 7 (refine qv ?_;simp only[Pu])
 refine q_val (v:=?qv8) (by rfl) (fun W hW=>?qh8) ?qr8
 case qh8=>have g1:=(Below.cell hW (p:=⟨B,0,none⟩) hB4.lt).trans hw4;go_simp;rfl
 simp only[Pu]
 iterate 4 (refine qv ?_;simp only[Pu])
 refine q_val (v:=?qv13) (by rfl) (fun W hW=>?qh13) ?qr13
 case qh13=>have g2:=(Below.cell hW (p:=⟨b,4,none⟩) hb4).trans m4;go_simp;rfl
 simp only[Pu]
 refine wpQuiet_nil ?_
 intro w5 hw5
 simp only[List.drop]
 clear hLw
 go_wp2_with (go_at_call 81;refine (splits_false (hB4.gr hw5) (by rw[←HN.out.1];omega) L (by rw[←HN.out.1];exact hLN) _ _).mono ?_;rintro e w6 ⟨rfl,hB6,hX6⟩)
 go_end0
 refine ⟨rfl,A4,?_,(((hX2.trans hX3).trans hX4).trans (WX.gr _ hw5)).trans hX6⟩
 have hNL:(N:Int)=(L:Int)+k.sz+2:=by have:=HN.out.2;have:=HL.out;omega
 rw[set_split (v:=⟨2,0,0,[]⟩) (l:=k.lay (L+1)++[⟨3,L,0,[]⟩]) (by rw[Hc4.out,Hc3.out,Hc2.out,HL.out];simp) HL.out,hNL] at hB6
 exact hB6
theorem put_star_true {w:World} {B lo hi:Nat} {A:Option Addr} {code:List In} (hB:WrtA w B A code) {b bk:Nat} {kids:Value} {k:Pc} (hl:code.length+k.sz≤1016) (h0:lo<b) (h1:b<hi) (h2:hi≤B) (hr:Rkn lo hi w kids [bk]) (hn:Node w b 42 [] kids 0 true) (HK:KidP lo hi B bk w k (code.length+1)) :
  Calls Tryz.prog 47 #[.pointer (some ⟨B,0,none⟩), .pointer (some ⟨b,0,none⟩)] w (RetW w B A (code++splitI true (code.length+1) (code.length+k.sz+2)::(k.lay (code.length+1)++[⟨3,code.length,0,[]⟩]))):=by
 obtain ⟨ad,ac,rfl,a0,a1,ha⟩:=hr.kid
 have Ha:=Lib.hid ha
 have hful:decide (1024<(code.length:Int))=false:=by simp;omega
 obtain ⟨n0,n1,n2,n3,n4⟩:=id hn
 go_enter Tryz.func47,Tryz.ntmps47
 go_upto_region 18 with (go_at_call 48;refine (full_any hB).mono ?_;rintro e w1 ⟨rfl,rfl⟩)
 have Hh:=Lib.hid hn
 clear hful hn
 go_upto_region 19 with (go_at_call 46;refine (lays_one hB ⟨2,0,0,[]⟩ (by omega)).mono ?_;rintro e w2 ⟨rfl,A2,hB2,hX2⟩)
 have hS2:=hB.same (lo:=lo) hX2 h2
 have hn:=Hh.out
 obtain ⟨m0,m1,m2,m3,m4⟩:=hS2.node h0 h1 hn
 have ha2:=hS2.at_ a0 a1 Ha.out
 clear n0 n1 n2 n3 n4 ha hn
 obtain ⟨code2,hc2⟩:∃c,c=code++[⟨2,0,0,[]⟩]:=⟨_,rfl⟩
 rw[←hc2] at hB2
 have hl2:code2.length=code.length+1:=by rw[hc2];simp
 have Hl2:=Lib.hid hl2
 have Hc2:=Lib.hid hc2
 clear hl2 hc2
 go_upto_region 20 with (go_at_call 47;refine (HK _ A2 code2 hB2 hS2 Hl2.out).mono ?_;rintro e w3 ⟨rfl,A3,hB3,hX3⟩)
 have hS3:=hS2.trans (hB2.same (lo:=lo) hX3 h2)
 clear m0 m1 m2 m3 m4 ha2 HK
 obtain ⟨code3,hc3⟩:∃c,c=code2++k.lay (code.length+1):=⟨_,rfl⟩
 rw[←hc3] at hB3
 have hl3:code3.length=code.length+1+k.sz:=by rw[hc3,List.length_append,Hl2.out,Pc.lay_len]
 have hl3':code3.length≤code.length+1+k.sz:=Nat.le_of_eq hl3
 have Hl3:=Lib.hid hl3
 have Hc3:=Lib.hid hc3
 clear hc3 hl3
 go_upto_region 21 with (go_at_call 46;refine (lays_one hB3 ⟨3,code.length,0,[]⟩ (by omega)).mono ?_;rintro e w4 ⟨rfl,A4,hB4,hX4⟩)
 have hS4:=hS3.trans (hB3.same (lo:=lo) hX4 h2)
 have hn:=Hh.out
 obtain ⟨m0,m1,m2,m3,m4⟩:=hS4.node h0 h1 hn
 have ha4:=hS4.at_ a0 a1 Ha.out
 clear ha4 hn m0 m1 m2 m3 hl3'
 obtain ⟨code4,hc4⟩:∃c,c=code3++[⟨3,code.length,0,[]⟩]:=⟨_,rfl⟩
 rw[←hc4] at hB4
 obtain ⟨N,hN⟩:∃N,N=code4.length:=⟨_,rfl⟩
 have hN':N=code.length+k.sz+2:=by rw[hN,hc4,List.length_append,Hl3.out];simp;omega
 have hN4:N≤1020:=by omega
 have hLN:code.length<N:=by omega
 obtain ⟨c4,hw4,hB4'⟩:∃c,w4.cell? ⟨B,0,none⟩=some (.slice A4 N c)∧WrtA w4 B A4 code4:=by
  obtain ⟨c,h5,h6⟩:=id hB4
  rw[←hN] at h5
  exact ⟨c,h5,hB4⟩
 obtain ⟨L,hL⟩:∃L,L=code.length:=⟨_,rfl⟩
 have hb4:b<w4.heap.size:=by have:=hS4.1;omega
 have hLw:IntKind.i64.wrap ((L:Int)+1)=(L:Int)+1:=IntWalk.i64_in _ (by omega)
 rw[←hL] at hLN ⊢
 have HL:=Lib.hid hL
 have HN:=Lib.hid (And.intro hN hN')
 have Hc4:=Lib.hid hc4
 clear hN hN' hc4 hL hl
 refine region_T 13 (by kernel_rfl) (by kernel_rfl) ?_
 simp only[List.take]
 iterate 7 (refine qv ?_;simp only[Pu])
 refine q_val (v:=?qv21) (by rfl) (fun W hW=>?qh21) ?qr21
 case qh21=>have g1:=(Below.cell hW (p:=⟨B,0,none⟩) hB4.lt).trans hw4;go_simp;rfl
 simp only[Pu]
 iterate 4 (refine qv ?_;simp only[Pu])
 refine q_val (v:=?qv26) (by rfl) (fun W hW=>?qh26) ?qr26
 case qh26=>have g2:=(Below.cell hW (p:=⟨b,4,none⟩) hb4).trans m4;go_simp;rfl
 simp only[Pu]
 refine wpQuiet_nil ?_
 intro w5 hw5
 simp only[List.drop]
 clear hLw
 go_wp2_with (go_at_call 81;refine (splits_true (hB4.gr hw5) (by rw[←HN.out.1];omega) L (by rw[←HN.out.1];exact hLN) _ _).mono ?_;rintro e w6 ⟨rfl,hB6,hX6⟩)
 go_end0
 refine ⟨rfl,A4,?_,(((hX2.trans hX3).trans hX4).trans (WX.gr _ hw5)).trans hX6⟩
 have hNL:(N:Int)=(L:Int)+k.sz+2:=by have:=HN.out.2;have:=HL.out;omega
 rw[set_split (v:=⟨2,0,0,[]⟩) (l:=k.lay (L+1)++[⟨3,L,0,[]⟩]) (by rw[Hc4.out,Hc3.out,Hc2.out,HL.out];simp) HL.out,hNL] at hB6
 exact hB6
theorem put_plus_false {w:World} {B lo hi:Nat} {A:Option Addr} {code:List In} (hB:WrtA w B A code) {b bk:Nat} {kids:Value} {k:Pc} (hl:code.length+k.sz≤1016) (h0:lo<b) (h1:b<hi) (h2:hi≤B) (hr:Rkn lo hi w kids [bk]) (hn:Node w b 43 [] kids 0 false) (HK:KidP lo hi B bk w k code.length) :
  Calls Tryz.prog 47 #[.pointer (some ⟨B,0,none⟩), .pointer (some ⟨b,0,none⟩)] w (RetW w B A (code++(k.lay code.length++[splitI false code.length (code.length+k.sz+1)]))):=by
 obtain ⟨c0,hw0, -⟩:=id hB
 obtain ⟨L,hL⟩:∃L,L=code.length:=⟨_,rfl⟩
 rw[←hL] at hl HK hw0 ⊢
 obtain ⟨ad,ac,rfl,a0,a1,ha⟩:=hr.kid
 have Ha:=Lib.hid ha
 have hful:decide (1024<(code.length:Int))=false:=by simp;omega
 obtain ⟨n0,n1,n2,n3,n4⟩:=id hn
 go_enter Tryz.func47,Tryz.ntmps47
 have HL:=Lib.hid hL
 clear hL
 go_upto_region 24 with (go_at_call 48;refine (full_any hB).mono ?_;rintro e w1 ⟨rfl,rfl⟩)
 have Hh:=Lib.hid hn
 clear hful hn hw0
 go_upto_region 25 with (go_at_call 47;refine (HK _ A code hB ⟨by have:=hB.lt;omega,fun _ _ _=>rfl⟩ HL.out.symm).mono ?_;rintro e w2 ⟨rfl,A2,hB2,hX2⟩)
 have hS2:=hB.same (lo:=lo) hX2 h2
 clear n0 n1 n2 n3 n4 ha HK
 obtain ⟨code2,hc2⟩:∃c,c=code++k.lay L:=⟨_,rfl⟩
 rw[←hc2] at hB2
 obtain ⟨M,hM⟩:∃M,M=code2.length:=⟨_,rfl⟩
 have hM':M=L+k.sz:=by rw[hM,hc2,List.length_append,←HL.out,Pc.lay_len]
 have hMl:M≤1016:=by omega
 have hcl:code2.length≤1016:=by omega
 have HM:=Lib.hid (And.intro hM hM')
 have Hc2:=Lib.hid hc2
 clear hM hM' hc2
 go_upto_region 26 with (go_at_call 46;refine (lays_one hB2 ⟨2,0,0,[]⟩ (by omega)).mono ?_;rintro e w3 ⟨rfl,A3,hB3,hX3⟩)
 have hS3:=hS2.trans (hB2.same (lo:=lo) hX3 h2)
 have hn:=Hh.out
 obtain ⟨m0,m1,m2,m3,m4⟩:=hS3.node h0 h1 hn
 have ha3:=hS3.at_ a0 a1 Ha.out
 clear hn ha3
 rw[←HM.out.1]
 obtain ⟨code3,hc3⟩:∃c,c=code2++[⟨2,0,0,[]⟩]:=⟨_,rfl⟩
 rw[←hc3] at hB3
 have hl3:code3.length=M+1:=by rw[hc3,List.length_append,←HM.out.1];rfl
 have Hl3:=Lib.hid hl3
 have Hc3:=Lib.hid hc3
 clear hc3 hl3 hl
 go_wp2_with (go_at_call 81;refine (splits_false hB3 (by rw[Hl3.out];omega) M (by rw[Hl3.out];omega) _ _).mono ?_;rintro e w6 ⟨rfl,hB6,hX6⟩)
 go_end0
 refine ⟨rfl,A3,?_,((hX2.trans hX3)).trans hX6⟩
 have hNL:(M:Int)=(L:Int)+k.sz:=by have:=HM.out.2;omega
 rw[set_split (v:=⟨2,0,0,[]⟩) (l:=[]) (by rw[Hc3.out]) HM.out.1] at hB6
 rw[Hc2.out,hNL,List.append_assoc] at hB6
 exact hB6
theorem put_maybe_false {w:World} {B lo hi:Nat} {A:Option Addr} {code:List In} (hB:WrtA w B A code) {b bk:Nat} {kids:Value} {k:Pc} (hl:code.length+k.sz≤1016) (h0:lo<b) (h1:b<hi) (h2:hi≤B) (hr:Rkn lo hi w kids [bk]) (hn:Node w b 63 [] kids 0 false) (HK:KidP lo hi B bk w k (code.length+1)) :
  Calls Tryz.prog 47 #[.pointer (some ⟨B,0,none⟩), .pointer (some ⟨b,0,none⟩)] w (RetW w B A (code++splitI false (code.length+1) (code.length+k.sz+1)::k.lay (code.length+1))):=by
 obtain ⟨ad,ac,rfl,a0,a1,ha⟩:=hr.kid
 have Ha:=Lib.hid ha
 have hful:decide (1024<(code.length:Int))=false:=by simp;omega
 obtain ⟨n0,n1,n2,n3,n4⟩:=id hn
 go_enter Tryz.func47,Tryz.ntmps47
 go_upto_region 28 with (go_at_call 48;refine (full_any hB).mono ?_;rintro e w1 ⟨rfl,rfl⟩)
 have Hh:=Lib.hid hn
 clear hful hn
 go_upto_region 29 with (go_at_call 46;refine (lays_one hB ⟨2,0,0,[]⟩ (by omega)).mono ?_;rintro e w2 ⟨rfl,A2,hB2,hX2⟩)
 have hS2:=hB.same (lo:=lo) hX2 h2
 have hn:=Hh.out
 obtain ⟨m0,m1,m2,m3,m4⟩:=hS2.node h0 h1 hn
 have ha2:=hS2.at_ a0 a1 Ha.out
 clear n0 n1 n2 n3 n4 ha hn
 obtain ⟨code2,hc2⟩:∃c,c=code++[⟨2,0,0,[]⟩]:=⟨_,rfl⟩
 rw[←hc2] at hB2
 have hl2:code2.length=code.length+1:=by rw[hc2];simp
 have Hl2:=Lib.hid hl2
 have Hc2:=Lib.hid hc2
 clear hl2 hc2
 go_upto_region 30 with (go_at_call 47;refine (HK _ A2 code2 hB2 hS2 Hl2.out).mono ?_;rintro e w3 ⟨rfl,A3,hB3,hX3⟩)
 have hS3:=hS2.trans (hB2.same (lo:=lo) hX3 h2)
 clear m0 m1 m2 m3 m4 ha2 HK
 have hn:=Hh.out
 obtain ⟨m0,m1,m2,m3,m4⟩:=hS3.node h0 h1 hn
 have ha3:=hS3.at_ a0 a1 Ha.out
 clear ha3 hn m0 m1 m2 m3
 obtain ⟨code3,hc3⟩:∃c,c=code2++k.lay (code.length+1):=⟨_,rfl⟩
 rw[←hc3] at hB3
 obtain ⟨N,hN⟩:∃N,N=code3.length:=⟨_,rfl⟩
 have hN':N=code.length+k.sz+1:=by rw[hN,hc3,List.length_append,Hl2.out,Pc.lay_len];omega
 have hN4:N≤1020:=by omega
 have hLN:code.length<N:=by omega
 obtain ⟨c3,hw3⟩:∃c,w3.cell? ⟨B,0,none⟩=some (.slice A3 N c):=by
  obtain ⟨c,h5,h6⟩:=id hB3
  rw[←hN] at h5
  exact ⟨c,h5⟩
 obtain ⟨L,hL⟩:∃L,L=code.length:=⟨_,rfl⟩
 have hb3:b<w3.heap.size:=by have:=hS3.1;omega
 have hLw:IntKind.i64.wrap ((L:Int)+1)=(L:Int)+1:=IntWalk.i64_in _ (by omega)
 rw[←hL] at hLN ⊢
 have HL:=Lib.hid hL
 have HN:=Lib.hid (And.intro hN hN')
 have Hc3:=Lib.hid hc3
 clear hN hN' hc3 hL hl
 refine region_T 13 (by kernel_rfl) (by kernel_rfl) ?_
 simp only[List.take]
 iterate 7 (refine qv ?_;simp only[Pu])
 refine q_val (v:=?qv34) (by rfl) (fun W hW=>?qh34) ?qr34
 case qh34=>have g1:=(Below.cell hW (p:=⟨B,0,none⟩) hB3.lt).trans hw3;go_simp;rfl
 simp only[Pu]
 iterate 4 (refine qv ?_;simp only[Pu])
 refine q_val (v:=?qv39) (by rfl) (fun W hW=>?qh39) ?qr39
 case qh39=>have g2:=(Below.cell hW (p:=⟨b,4,none⟩) hb3).trans m4;go_simp;rfl
 simp only[Pu]
 refine wpQuiet_nil ?_
 intro w5 hw5
 simp only[List.drop]
 clear hLw
 go_wp2_with (go_at_call 81;refine (splits_false (hB3.gr hw5) (by rw[←HN.out.1];omega) L (by rw[←HN.out.1];exact hLN) _ _).mono ?_;rintro e w6 ⟨rfl,hB6,hX6⟩)
 go_end0
 refine ⟨rfl,A3,?_,((hX2.trans hX3).trans (WX.gr _ hw5)).trans hX6⟩
 have hNL:(N:Int)=(L:Int)+k.sz+1:=by have:=HN.out.2;have:=HL.out;omega
 rw[set_split (v:=⟨2,0,0,[]⟩) (l:=k.lay (L+1)) (by rw[Hc3.out,Hc2.out,HL.out];simp) HL.out,hNL] at hB6
 exact hB6
theorem put_plus_true {w:World} {B lo hi:Nat} {A:Option Addr} {code:List In} (hB:WrtA w B A code) {b bk:Nat} {kids:Value} {k:Pc} (hl:code.length+k.sz≤1016) (h0:lo<b) (h1:b<hi) (h2:hi≤B) (hr:Rkn lo hi w kids [bk]) (hn:Node w b 43 [] kids 0 true) (HK:KidP lo hi B bk w k code.length) :
  Calls Tryz.prog 47 #[.pointer (some ⟨B,0,none⟩), .pointer (some ⟨b,0,none⟩)] w (RetW w B A (code++(k.lay code.length++[splitI true code.length (code.length+k.sz+1)]))):=by
 obtain ⟨c0,hw0, -⟩:=id hB
 obtain ⟨L,hL⟩:∃L,L=code.length:=⟨_,rfl⟩
 rw[←hL] at hl HK hw0 ⊢
 obtain ⟨ad,ac,rfl,a0,a1,ha⟩:=hr.kid
 have Ha:=Lib.hid ha
 have hful:decide (1024<(code.length:Int))=false:=by simp;omega
 obtain ⟨n0,n1,n2,n3,n4⟩:=id hn
 go_enter Tryz.func47,Tryz.ntmps47
 have HL:=Lib.hid hL
 clear hL
 go_upto_region 24 with (go_at_call 48;refine (full_any hB).mono ?_;rintro e w1 ⟨rfl,rfl⟩)
 have Hh:=Lib.hid hn
 clear hful hn hw0
 go_upto_region 25 with (go_at_call 47;refine (HK _ A code hB ⟨by have:=hB.lt;omega,fun _ _ _=>rfl⟩ HL.out.symm).mono ?_;rintro e w2 ⟨rfl,A2,hB2,hX2⟩)
 have hS2:=hB.same (lo:=lo) hX2 h2
 clear n0 n1 n2 n3 n4 ha HK
 obtain ⟨code2,hc2⟩:∃c,c=code++k.lay L:=⟨_,rfl⟩
 rw[←hc2] at hB2
 obtain ⟨M,hM⟩:∃M,M=code2.length:=⟨_,rfl⟩
 have hM':M=L+k.sz:=by rw[hM,hc2,List.length_append,←HL.out,Pc.lay_len]
 have hMl:M≤1016:=by omega
 have hcl:code2.length≤1016:=by omega
 have HM:=Lib.hid (And.intro hM hM')
 have Hc2:=Lib.hid hc2
 clear hM hM' hc2
 go_upto_region 26 with (go_at_call 46;refine (lays_one hB2 ⟨2,0,0,[]⟩ (by omega)).mono ?_;rintro e w3 ⟨rfl,A3,hB3,hX3⟩)
 have hS3:=hS2.trans (hB2.same (lo:=lo) hX3 h2)
 have hn:=Hh.out
 obtain ⟨m0,m1,m2,m3,m4⟩:=hS3.node h0 h1 hn
 have ha3:=hS3.at_ a0 a1 Ha.out
 clear hn ha3
 rw[←HM.out.1]
 obtain ⟨code3,hc3⟩:∃c,c=code2++[⟨2,0,0,[]⟩]:=⟨_,rfl⟩
 rw[←hc3] at hB3
 have hl3:code3.length=M+1:=by rw[hc3,List.length_append,←HM.out.1];rfl
 have Hl3:=Lib.hid hl3
 have Hc3:=Lib.hid hc3
 clear hc3 hl3 hl
 go_wp2_with (go_at_call 81;refine (splits_true hB3 (by rw[Hl3.out];omega) M (by rw[Hl3.out];omega) _ _).mono ?_;rintro e w6 ⟨rfl,hB6,hX6⟩)
 go_end0
 refine ⟨rfl,A3,?_,((hX2.trans hX3)).trans hX6⟩
 have hNL:(M:Int)=(L:Int)+k.sz:=by have:=HM.out.2;omega
 rw[set_split (v:=⟨2,0,0,[]⟩) (l:=[]) (by rw[Hc3.out]) HM.out.1] at hB6
 rw[Hc2.out,hNL,List.append_assoc] at hB6
 exact hB6
theorem put_maybe_true {w:World} {B lo hi:Nat} {A:Option Addr} {code:List In} (hB:WrtA w B A code) {b bk:Nat} {kids:Value} {k:Pc} (hl:code.length+k.sz≤1016) (h0:lo<b) (h1:b<hi) (h2:hi≤B) (hr:Rkn lo hi w kids [bk]) (hn:Node w b 63 [] kids 0 true) (HK:KidP lo hi B bk w k (code.length+1)) :
  Calls Tryz.prog 47 #[.pointer (some ⟨B,0,none⟩), .pointer (some ⟨b,0,none⟩)] w (RetW w B A (code++splitI true (code.length+1) (code.length+k.sz+1)::k.lay (code.length+1))):=by
 obtain ⟨ad,ac,rfl,a0,a1,ha⟩:=hr.kid
 have Ha:=Lib.hid ha
 have hful:decide (1024<(code.length:Int))=false:=by simp;omega
 obtain ⟨n0,n1,n2,n3,n4⟩:=id hn
 go_enter Tryz.func47,Tryz.ntmps47
 go_upto_region 28 with (go_at_call 48;refine (full_any hB).mono ?_;rintro e w1 ⟨rfl,rfl⟩)
 have Hh:=Lib.hid hn
 clear hful hn
 go_upto_region 29 with (go_at_call 46;refine (lays_one hB ⟨2,0,0,[]⟩ (by omega)).mono ?_;rintro e w2 ⟨rfl,A2,hB2,hX2⟩)
 have hS2:=hB.same (lo:=lo) hX2 h2
 have hn:=Hh.out
 obtain ⟨m0,m1,m2,m3,m4⟩:=hS2.node h0 h1 hn
 have ha2:=hS2.at_ a0 a1 Ha.out
 clear n0 n1 n2 n3 n4 ha hn
 obtain ⟨code2,hc2⟩:∃c,c=code++[⟨2,0,0,[]⟩]:=⟨_,rfl⟩
 rw[←hc2] at hB2
 have hl2:code2.length=code.length+1:=by rw[hc2];simp
 have Hl2:=Lib.hid hl2
 have Hc2:=Lib.hid hc2
 clear hl2 hc2
 go_upto_region 30 with (go_at_call 47;refine (HK _ A2 code2 hB2 hS2 Hl2.out).mono ?_;rintro e w3 ⟨rfl,A3,hB3,hX3⟩)
 have hS3:=hS2.trans (hB2.same (lo:=lo) hX3 h2)
 clear m0 m1 m2 m3 m4 ha2 HK
 have hn:=Hh.out
 obtain ⟨m0,m1,m2,m3,m4⟩:=hS3.node h0 h1 hn
 have ha3:=hS3.at_ a0 a1 Ha.out
 clear ha3 hn m0 m1 m2 m3
 obtain ⟨code3,hc3⟩:∃c,c=code2++k.lay (code.length+1):=⟨_,rfl⟩
 rw[←hc3] at hB3
 obtain ⟨N,hN⟩:∃N,N=code3.length:=⟨_,rfl⟩
 have hN':N=code.length+k.sz+1:=by rw[hN,hc3,List.length_append,Hl2.out,Pc.lay_len];omega
 have hN4:N≤1020:=by omega
 have hLN:code.length<N:=by omega
 obtain ⟨c3,hw3⟩:∃c,w3.cell? ⟨B,0,none⟩=some (.slice A3 N c):=by
  obtain ⟨c,h5,h6⟩:=id hB3
  rw[←hN] at h5
  exact ⟨c,h5⟩
 obtain ⟨L,hL⟩:∃L,L=code.length:=⟨_,rfl⟩
 have hb3:b<w3.heap.size:=by have:=hS3.1;omega
 have hLw:IntKind.i64.wrap ((L:Int)+1)=(L:Int)+1:=IntWalk.i64_in _ (by omega)
 rw[←hL] at hLN ⊢
 have HL:=Lib.hid hL
 have HN:=Lib.hid (And.intro hN hN')
 have Hc3:=Lib.hid hc3
 clear hN hN' hc3 hL hl
 refine region_T 13 (by kernel_rfl) (by kernel_rfl) ?_
 simp only[List.take]
 iterate 7 (refine qv ?_;simp only[Pu])
 refine q_val (v:=?qv47) (by rfl) (fun W hW=>?qh47) ?qr47
 case qh47=>have g1:=(Below.cell hW (p:=⟨B,0,none⟩) hB3.lt).trans hw3;go_simp;rfl
 simp only[Pu]
 iterate 4 (refine qv ?_;simp only[Pu])
 refine q_val (v:=?qv52) (by rfl) (fun W hW=>?qh52) ?qr52
 case qh52=>have g2:=(Below.cell hW (p:=⟨b,4,none⟩) hb3).trans m4;go_simp;rfl
 simp only[Pu]
 refine wpQuiet_nil ?_
 intro w5 hw5
 simp only[List.drop]
 clear hLw
 go_wp2_with (go_at_call 81;refine (splits_true (hB3.gr hw5) (by rw[←HN.out.1];omega) L (by rw[←HN.out.1];exact hLN) _ _).mono ?_;rintro e w6 ⟨rfl,hB6,hX6⟩)
 go_end0
 refine ⟨rfl,A3,?_,((hX2.trans hX3).trans (WX.gr _ hw5)).trans hX6⟩
 have hNL:(N:Int)=(L:Int)+k.sz+1:=by have:=HN.out.2;have:=HL.out;omega
 rw[set_split (v:=⟨2,0,0,[]⟩) (l:=k.lay (L+1)) (by rw[Hc3.out,Hc2.out,HL.out];simp) HL.out,hNL] at hB6
 exact hB6
theorem PcL.app_one:∀(l:PcL) (p:Pc) (m:PcL),l.app (.cons p m)=(l.app (.cons p .nil)).app m
 | .nil,p,m=>rfl
 | .cons q l,p,m=>by rw[PcL.app,PcL.app,PcL.app,PcL.app_one l p m]
theorem PcL.len_app:∀(l m:PcL),(l.app m).len=l.len+m.len
 | .nil,m=>by simp[PcL.app,PcL.len]
 | .cons p l,m=>by simp only[PcL.app,PcL.len,PcL.len_app l m];omega
theorem PcL.szR_app:∀(l m:PcL),(l.app m).szR=l.szR+m.szR
 | .nil,m=>by simp[PcL.app,PcL.szR]
 | .cons p l,m=>by simp only[PcL.app,PcL.szR,PcL.szR_app l m];omega
theorem PcL.layR_app:∀(l m:PcL) (a:Nat),(l.app m).layR a=l.layR a++m.layR (a+l.szR)
 | .nil,m,a=>by simp[PcL.app,PcL.layR,PcL.szR]
 | .cons p l,m,a=>by simp only[PcL.app,PcL.layR,PcL.szR,PcL.layR_app l m,List.append_assoc,Nat.add_assoc]
theorem PcL.In.len {lo hi:Nat} {w:World}:∀{l:PcL} {bs:List Nat},l.In lo hi w bs→l.len=bs.length
 | .nil,bs,h=>by simp only[PcL.In] at h;subst h;rfl
 | .cons p l,bs,h=>by
  simp only[PcL.In] at h
  obtain ⟨b,r,rfl,_,h2⟩:=h
  simp only[PcL.len,List.length_cons,h2.len]
theorem PcL.In.get {lo hi:Nat} {w:World}:∀{l:PcL} {p:Pc} {m:PcL} {bs:List Nat},(l.app (.cons p m)).In lo hi w bs→∃bk,bs[l.len]?=some bk∧p.In lo hi w bk
 | .nil,p,m,bs,h=>by
  simp only[PcL.app,PcL.In] at h
  obtain ⟨b,r,rfl,h1,_⟩:=h
  exact ⟨b,rfl,h1⟩
 | .cons q l,p,m,bs,h=>by
  simp only[PcL.app,PcL.In] at h
  obtain ⟨b,r,rfl,_,h2⟩:=h
  obtain ⟨bk,h3,h4⟩:=PcL.In.get h2
  exact ⟨bk,by simpa [PcL.len] using h3,h4⟩
theorem Rkn.at_ {lo hi k bk:Nat} {w:World} {A:Option Addr} {n c:Nat} {bs:List Nat} (h:Rkn lo hi w (.slice A n c) bs) (hk:bs[k]?=some bk):n=bs.length∧∃ad,A=some ad∧lo<ad.block∧ad.block<hi∧w.cell? (ad.add k)=some (.pointer (some ⟨bk,0,none⟩)):=by
 obtain ⟨A',c',e,hr,hb⟩:=h
 have hlt:k<bs.length:=(List.getElem?_eq_some_iff.1 hk).1
 injection e with e1 e2 e3
 subst e1
 obtain ⟨ad,rfl,_,hc⟩:=hr.2 (by omega)
 obtain ⟨h0,h1⟩:=hb (by omega) ad rfl
 exact ⟨e2,ad,rfl,h0,h1,hc k _ (by simp[ptrs,hk])⟩
theorem Rkn.form {lo hi:Nat} {w:World} {kids:Value} {bs:List Nat} (h:Rkn lo hi w kids bs):∃A c,kids= .slice A bs.length c∧bs.length≤bs.length:=by
 obtain ⟨A,c,e,_⟩:=h
 exact ⟨A,c,e,Nat.le_refl _⟩
theorem Same.add {lo hi:Nat} {w w':World} (h:Same lo hi w w') {p:Addr} {k:Nat} (h0:lo<p.block) (h1:p.block<hi) {u:Value} (hc:w.cell? (p.add k)=some u):w'.cell? (p.add k)=some u:=h.at_ (by rw[add_blk];exact h0) (by rw[add_blk];exact h1) hc
def RowR (w:World) (B:Nat) (A:Option Addr) (code:List In) (l:PcL) (k:Nat) (wr:World):Prop:=
 ∃(ds rest:PcL) (A':Option Addr),l=ds.app rest∧ds.len=k∧WrtA wr B A' (code++ds.layR code.length)∧WX B w (blk A) wr (blk A')
theorem put_row {w:World} {B lo hi:Nat} {A:Option Addr} {code:List In} (hB:WrtA w B A code) {b:Nat} {kids:Value} {l:PcL} {bs:List Nat} (hl:code.length+l.szR≤1016) (h0:lo<b) (h1:b<hi) (h2:hi≤B) (hr:Rkn lo hi w kids bs) (hbs:bs.length≤6000) (hn:Node w b 10 [] kids 0 false) (hin:l.In lo hi w bs)
  (HK:∀(ds:PcL) (p:Pc) (rest:PcL) (bk:Nat),l=ds.app (.cons p rest)→p.In lo hi w bk→KidP lo hi B bk w p (code.length+ds.szR)) :
  Calls Tryz.prog 47 #[.pointer (some ⟨B,0,none⟩), .pointer (some ⟨b,0,none⟩)] w (RetW w B A (code++l.layR code.length)):=by
 obtain ⟨KA,kc,rfl, -⟩:=hr.form
 have hll:=hin.len
 obtain ⟨n,hnn⟩:∃n,n=bs.length:=⟨_,rfl⟩
 rw[←hnn] at hr hn hll hbs
 have hful:decide (1024<(code.length:Int))=false:=by simp;omega
 have hst:RowR w B A code l 0 w:=⟨.nil,l,A,rfl,rfl,by simpa [PcL.layR] using hB,WX.refl _ _ _⟩
 have Hst:=Lib.hid hst
 have Hll:=Lib.hid hll
 clear hst hll hnn
 obtain ⟨n0,n1,n2,n3,n4⟩:=hn
 go_enter Tryz.func47,Tryz.ntmps47
 go_wp2_with (go_at_call 48;refine (full_any hB).mono ?_;rintro e w1 ⟨rfl,rfl⟩)
 clear hful n0 n1 n2 n3 n4
 go_loopw [35] (fun t wr=>∃k:Nat,t= .int .i64 k∧k≤n∧RowR w B A code l k wr) (fun t wr=>n-(intOf t).toNat)
 case atStart=>exact ⟨0,rfl,Nat.zero_le _,Hst.out⟩
 case round=>
  obtain ⟨k,rfl,hk,HR⟩:=hrel
  by_cases hlt:k<n
  ·
   obtain ⟨ds,rest,A1,e1,e2,hB1,hX1⟩:=HR
   match rest,e1 with
   | .nil,e1=>exfalso;rw[e1,PcL.len_app] at Hll;have:=Hll.out;simp only[PcL.len] at this;omega
   | .cons p rest,e1=>
   have hin2:=hin
   rw[e1] at hin2
   obtain ⟨bk,hbk,hpin⟩:=hin2.get
   rw[e2] at hbk
   obtain ⟨-,ad,rfl,a0,a1,ha⟩:=hr.at_ hbk
   have hS1:=hB.same (lo:=lo) hX1 h2
   have ha1:=hS1.add a0 a1 ha
   have HP:=HK ds p rest bk e1 hpin
   have hlen:(code++ds.layR code.length).length=code.length+ds.szR:=by rw[List.length_append,PcL.layR_len]
   have HC:=HP wr A1 _ hB1 hS1 hlen
   have He:=Lib.hid (And.intro e1 e2)
   have Hh:=Lib.hid (And.intro hB1 hX1)
   clear e1 e2 hB1 hX1 hin2 hbk ha hlen hin HK HP hl hS1 hpin hr
   go_wp2_with (go_at_call 47;refine HC.mono ?_;rintro e w2 ⟨rfl,A2,hB2,hX2⟩;have Hh2:=Lib.hid (And.intro hB2 hX2);clear hB2 hX2)
   go_roundw
   case rel=>
    refine ⟨k+1,by go_num,by omega,ds.app (.cons p .nil),rest,A2,?_,?_,?_,Hh.out.2.trans Hh2.out.2⟩
    ·
     rw[He.out.1];exact PcL.app_one _ _ _
    ·
     rw[PcL.len_app,He.out.2];rfl
    ·
     rw[PcL.layR_app]
     have:=Hh2.out.1
     simpa [PcL.layR] using this
   case measure=>simp[intOf];omega
  ·
   have hkn:k=n:=by omega
   have HR':=Lib.hid HR
   clear HR hin HK hr
   go_wp2
   go_end0
   obtain ⟨ds,rest,A1,e1,e2,hB1,hX1⟩:=HR'.out
   have:rest= .nil:=by
    cases rest with
    | nil=>rfl
    | cons q r=>exfalso;have:=Hll.out;rw[e1,PcL.len_app] at this;simp only[PcL.len] at this;omega
   subst this
   rw[PcL.app_nil] at e1
   rw[←e1] at hB1
   exact ⟨rfl,A1,hB1,hX1⟩
end Go.Proofs.YtnphdacibageiaaGreat
