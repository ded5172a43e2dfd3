import Derived.Test.YtoncapkmaeghfaaGreatRunFxBase
import Derived.Deep.Light
import Derived.Maps.Own
import Derived.Maps.OwnSet
import Derived.Maps.RangeRun
import Derived.WalkKit
set_option linter.all false
set_option maxRecDepth 1000000
set_option maxHeartbeats 12800000
namespace Go.Proofs.YtoncapkmaeghfaaGreat
open Go.RowKit
theorem whead_fits (x y:Nat×Nat) (hx:oneOk x=true) (hy:oneOk y=true) (w:World):Calls Tryz.prog 94 #[.agg #[.int .i64 x.1, .int .i64 x.2], .agg #[.int .i64 y.1, .int .i64 y.2]] w fun e w'=>e= .returned (.bool (fitsS x y))∧Gr w w':=by
 obtain ⟨x1,x2⟩:=x
 obtain ⟨y1,y2⟩:=y
 obtain ⟨hx1,hx2,hx3,hx4⟩:=oneOk_iff.1 hx
 obtain ⟨hy1,hy2,hy3,hy4⟩:=oneOk_iff.1 hy
 simp only at hx1 hx2 hx3 hx4 hy1 hy2 hy3 hy4 ⊢
 obtain ⟨F,hF⟩:∃F,F=fitsS (x1,x2) (y1,y2):=⟨_,rfl⟩
 rw[←hF]
 have hFF:=fits_int (x1:Int) x2 y1 y2 (by omega) (by omega) (by omega) (by omega)
 have hm1:=prod_small (x1:Int) x2 (by omega) (by omega) (by omega) (by omega)
 have hm2:=prod_small (y1:Int) y2 (by omega) (by omega) (by omega) (by omega)
 have hfi:fitsS (x1,x2) (y1,y2)=(decide ((x1:Int)<y1)&&(((y1:Int)%x1)==0)&&decide ((x1:Int)*x2<(y1:Int)*y2)&&decide ((y1:Int)/x1≤x2)):=fits_eq _ _ _ _
 rw[hfi] at hF
 have HF:=Lib.hid hF
 obtain ⟨X1,hX1⟩:∃X:Int,X=x1:=⟨_,rfl⟩
 obtain ⟨X2,hX2⟩:∃X:Int,X=x2:=⟨_,rfl⟩
 obtain ⟨Y1,hY1⟩:∃X:Int,X=y1:=⟨_,rfl⟩
 obtain ⟨Y2,hY2⟩:∃X:Int,X=y2:=⟨_,rfl⟩
 have a1:1≤X1∧X1≤16777216:=by omega
 have a2:1≤X2∧X2≤16777216:=by omega
 have a3:1≤Y1∧Y1≤16777216:=by omega
 have a4:1≤Y2∧Y2≤16777216:=by omega
 simp only[←hX1,←hX2,←hY1,←hY2] at HF hFF hm1 hm2 ⊢
 clear hX1 hX2 hY1 hY2 hF hfi hx hy hx1 hx2 hx3 hx4 hy1 hy2 hy3 hy4
 obtain ⟨V,hV⟩:∃V,V=(w.alloc (.cells #[.int .i64 X1, .int .i64 X2] 69)).alloc (.cells #[.int .i64 Y1, .int .i64 Y2] 69):=⟨_,rfl⟩
 have gV:Gr w V:=by rw[hV];exact Gr.alloc (Gr.alloc (Gr.refl w) _) _
 have hzx:w.heap.size<V.heap.size:=by rw[hV];simp;omega
 have hzy:w.heap.size+1<V.heap.size:=by rw[hV];simp
 have cx0:V.cell? ⟨w.heap.size,0,none⟩=some (.int .i64 X1):=by rw[hV];go_simp
 have cx1:V.cell? ⟨w.heap.size,1,none⟩=some (.int .i64 X2):=by rw[hV];go_simp
 have cy0:V.cell? ⟨w.heap.size+1,0,none⟩=some (.int .i64 Y1):=by rw[hV];go_simp
 have cy1:V.cell? ⟨w.heap.size+1,1,none⟩=some (.int .i64 Y2):=by rw[hV];go_simp
 have HV:=Lib.hid hV
 have HG:=Lib.hid gV
 clear hV gV
 obtain ⟨q1,q2,q3,q4⟩:=hFF
 by_cases h1:X1<Y1
 ·
  have e1:decide (X1<Y1)=true:=decide_eq_true h1
  cases h2:(Y1%X1==0)
  ·
   clear q1 q3 hm1 hm2
   go_enter Tryz.func94,Tryz.ntmps94
   go_upto_region 1 with (fail)
   rw[←HV.out]
   clear HV
   refine region_R (by kernel_rfl) (by kernel_rfl) ?_
   refine rv ?_;simp only[Pu]
   refine r_val (v:=?qv2) (by kernel_rfl) (fun W hW=>?qh2) ?qr2
   case qh2=>have g:=(Below.cell hW (p:=⟨w.heap.size+1,0,none⟩) hzy).trans cy0;go_light;go_simp;rfl
   simp only[Pu]
   refine rv ?_;simp only[Pu]
   refine r_val (v:=?qv4) (by kernel_rfl) (fun W hW=>?qh4) ?qr4
   case qh4=>have g:=(Below.cell hW (p:=⟨w.heap.size,0,none⟩) hzx).trans cx0;go_light;go_simp;rfl
   simp only[Pu]
   iterate 3 (refine rv ?_;simp only[Pu])
   refine r_val (v:=?qv8) (by kernel_rfl) (fun W hW=>?qh8) ?qr8
   case qh8=>have g:=(Below.cell hW (p:=⟨w.heap.size+1,0,none⟩) hzy).trans cy0;go_light;go_simp;rfl
   simp only[Pu]
   refine rv ?_;simp only[Pu]
   refine r_val (v:=?qv10) (by kernel_rfl) (fun W hW=>?qh10) ?qr10
   case qh10=>have g:=(Below.cell hW (p:=⟨w.heap.size,0,none⟩) hzx).trans cx0;go_light;go_simp;rfl
   simp only[Pu]
   iterate 4 (refine rv ?_;simp only[Pu])
   iterate 11 (refine rs ?_;simp only[Pu])
   iterate 2 (refine rv ?_;simp only[Pu])
   iterate 8 (refine rs ?_;simp only[Pu])
   iterate 2 (refine rv ?_;simp only[Pu])
   refine r_nil ?_
   intro w8 hw8
   go_wp2
   go_ret
   exact ⟨ret_b (by rw[HF.out,e1,h2];rfl),HG.out.trans hw8⟩
  ·
   by_cases h3:X1*X2<Y1*Y2
   ·
    have e3:decide (X1*X2<Y1*Y2)=true:=decide_eq_true h3
    by_cases h4:Y1/X1≤X2
    ·
     have e4:decide (Y1/X1≤X2)=true:=decide_eq_true h4
     go_enter Tryz.func94,Tryz.ntmps94
     go_upto_region 1 with (fail)
     rw[←HV.out]
     clear HV
     refine region_R (by kernel_rfl) (by kernel_rfl) ?_
     refine rv ?_;simp only[Pu]
     refine r_val (v:=?qv20) (by kernel_rfl) (fun W hW=>?qh20) ?qr20
     case qh20=>have g:=(Below.cell hW (p:=⟨w.heap.size+1,0,none⟩) hzy).trans cy0;go_light;go_simp;rfl
     simp only[Pu]
     refine rv ?_;simp only[Pu]
     refine r_val (v:=?qv22) (by kernel_rfl) (fun W hW=>?qh22) ?qr22
     case qh22=>have g:=(Below.cell hW (p:=⟨w.heap.size,0,none⟩) hzx).trans cx0;go_light;go_simp;rfl
     simp only[Pu]
     iterate 3 (refine rv ?_;simp only[Pu])
     refine r_val (v:=?qv26) (by kernel_rfl) (fun W hW=>?qh26) ?qr26
     case qh26=>have g:=(Below.cell hW (p:=⟨w.heap.size+1,0,none⟩) hzy).trans cy0;go_light;go_simp;rfl
     simp only[Pu]
     refine rv ?_;simp only[Pu]
     refine r_val (v:=?qv28) (by kernel_rfl) (fun W hW=>?qh28) ?qr28
     case qh28=>have g:=(Below.cell hW (p:=⟨w.heap.size,0,none⟩) hzx).trans cx0;go_light;go_simp;rfl
     simp only[Pu]
     iterate 5 (refine rv ?_;simp only[Pu])
     refine r_val (v:=?qv34) (by kernel_rfl) (fun W hW=>?qh34) ?qr34
     case qh34=>have g:=(Below.cell hW (p:=⟨w.heap.size+1,0,none⟩) hzy).trans cy0;go_light;go_simp;rfl
     simp only[Pu]
     refine rv ?_;simp only[Pu]
     refine r_val (v:=?qv36) (by kernel_rfl) (fun W hW=>?qh36) ?qr36
     case qh36=>have g:=(Below.cell hW (p:=⟨w.heap.size+1,1,none⟩) hzy).trans cy1;go_light;go_simp;rfl
     simp only[Pu]
     iterate 2 (refine rv ?_;simp only[Pu])
     refine r_val (v:=?qv39) (by kernel_rfl) (fun W hW=>?qh39) ?qr39
     case qh39=>have g:=(Below.cell hW (p:=⟨w.heap.size,0,none⟩) hzx).trans cx0;go_light;go_simp;rfl
     simp only[Pu]
     refine rv ?_;simp only[Pu]
     refine r_val (v:=?qv41) (by kernel_rfl) (fun W hW=>?qh41) ?qr41
     case qh41=>have g:=(Below.cell hW (p:=⟨w.heap.size,1,none⟩) hzx).trans cx1;go_light;go_simp;rfl
     simp only[Pu]
     iterate 5 (refine rv ?_;simp only[Pu])
     refine r_val (v:=?qv47) (by kernel_rfl) (fun W hW=>?qh47) ?qr47
     case qh47=>have g:=(Below.cell hW (p:=⟨w.heap.size,1,none⟩) hzx).trans cx1;go_light;go_simp;rfl
     simp only[Pu]
     refine rv ?_;simp only[Pu]
     refine r_val (v:=?qv49) (by kernel_rfl) (fun W hW=>?qh49) ?qr49
     case qh49=>have g:=(Below.cell hW (p:=⟨w.heap.size+1,0,none⟩) hzy).trans cy0;go_light;go_simp;rfl
     simp only[Pu]
     refine rv ?_;simp only[Pu]
     refine r_val (v:=?qv51) (by kernel_rfl) (fun W hW=>?qh51) ?qr51
     case qh51=>have g:=(Below.cell hW (p:=⟨w.heap.size,0,none⟩) hzx).trans cx0;go_light;go_simp;rfl
     simp only[Pu]
     iterate 4 (refine rv ?_;simp only[Pu])
     refine r_nil ?_
     intro w8 hw8
     go_wp2
     go_ret
     exact ⟨ret_b (by rw[HF.out,e1,h2,e3,e4];rfl),HG.out.trans hw8⟩
    ·
     have e4:decide (Y1/X1≤X2)=false:=decide_eq_false h4
     go_enter Tryz.func94,Tryz.ntmps94
     go_upto_region 1 with (fail)
     rw[←HV.out]
     clear HV
     refine region_R (by kernel_rfl) (by kernel_rfl) ?_
     refine rv ?_;simp only[Pu]
     refine r_val (v:=?qv57) (by kernel_rfl) (fun W hW=>?qh57) ?qr57
     case qh57=>have g:=(Below.cell hW (p:=⟨w.heap.size+1,0,none⟩) hzy).trans cy0;go_light;go_simp;rfl
     simp only[Pu]
     refine rv ?_;simp only[Pu]
     refine r_val (v:=?qv59) (by kernel_rfl) (fun W hW=>?qh59) ?qr59
     case qh59=>have g:=(Below.cell hW (p:=⟨w.heap.size,0,none⟩) hzx).trans cx0;go_light;go_simp;rfl
     simp only[Pu]
     iterate 3 (refine rv ?_;simp only[Pu])
     refine r_val (v:=?qv63) (by kernel_rfl) (fun W hW=>?qh63) ?qr63
     case qh63=>have g:=(Below.cell hW (p:=⟨w.heap.size+1,0,none⟩) hzy).trans cy0;go_light;go_simp;rfl
     simp only[Pu]
     refine rv ?_;simp only[Pu]
     refine r_val (v:=?qv65) (by kernel_rfl) (fun W hW=>?qh65) ?qr65
     case qh65=>have g:=(Below.cell hW (p:=⟨w.heap.size,0,none⟩) hzx).trans cx0;go_light;go_simp;rfl
     simp only[Pu]
     iterate 5 (refine rv ?_;simp only[Pu])
     refine r_val (v:=?qv71) (by kernel_rfl) (fun W hW=>?qh71) ?qr71
     case qh71=>have g:=(Below.cell hW (p:=⟨w.heap.size+1,0,none⟩) hzy).trans cy0;go_light;go_simp;rfl
     simp only[Pu]
     refine rv ?_;simp only[Pu]
     refine r_val (v:=?qv73) (by kernel_rfl) (fun W hW=>?qh73) ?qr73
     case qh73=>have g:=(Below.cell hW (p:=⟨w.heap.size+1,1,none⟩) hzy).trans cy1;go_light;go_simp;rfl
     simp only[Pu]
     iterate 2 (refine rv ?_;simp only[Pu])
     refine r_val (v:=?qv76) (by kernel_rfl) (fun W hW=>?qh76) ?qr76
     case qh76=>have g:=(Below.cell hW (p:=⟨w.heap.size,0,none⟩) hzx).trans cx0;go_light;go_simp;rfl
     simp only[Pu]
     refine rv ?_;simp only[Pu]
     refine r_val (v:=?qv78) (by kernel_rfl) (fun W hW=>?qh78) ?qr78
     case qh78=>have g:=(Below.cell hW (p:=⟨w.heap.size,1,none⟩) hzx).trans cx1;go_light;go_simp;rfl
     simp only[Pu]
     iterate 5 (refine rv ?_;simp only[Pu])
     refine r_val (v:=?qv84) (by kernel_rfl) (fun W hW=>?qh84) ?qr84
     case qh84=>have g:=(Below.cell hW (p:=⟨w.heap.size,1,none⟩) hzx).trans cx1;go_light;go_simp;rfl
     simp only[Pu]
     refine rv ?_;simp only[Pu]
     refine r_val (v:=?qv86) (by kernel_rfl) (fun W hW=>?qh86) ?qr86
     case qh86=>have g:=(Below.cell hW (p:=⟨w.heap.size+1,0,none⟩) hzy).trans cy0;go_light;go_simp;rfl
     simp only[Pu]
     refine rv ?_;simp only[Pu]
     refine r_val (v:=?qv88) (by kernel_rfl) (fun W hW=>?qh88) ?qr88
     case qh88=>have g:=(Below.cell hW (p:=⟨w.heap.size,0,none⟩) hzx).trans cx0;go_light;go_simp;rfl
     simp only[Pu]
     iterate 4 (refine rv ?_;simp only[Pu])
     refine r_nil ?_
     intro w8 hw8
     go_wp2
     go_ret
     exact ⟨ret_b (by rw[HF.out,e1,h2,e3,e4];rfl),HG.out.trans hw8⟩
   ·
    have e3:decide (X1*X2<Y1*Y2)=false:=decide_eq_false h3
    clear q1 q3
    go_enter Tryz.func94,Tryz.ntmps94
    go_upto_region 1 with (fail)
    rw[←HV.out]
    clear HV
    refine region_R (by kernel_rfl) (by kernel_rfl) ?_
    refine rv ?_;simp only[Pu]
    refine r_val (v:=?qv94) (by kernel_rfl) (fun W hW=>?qh94) ?qr94
    case qh94=>have g:=(Below.cell hW (p:=⟨w.heap.size+1,0,none⟩) hzy).trans cy0;go_light;go_simp;rfl
    simp only[Pu]
    refine rv ?_;simp only[Pu]
    refine r_val (v:=?qv96) (by kernel_rfl) (fun W hW=>?qh96) ?qr96
    case qh96=>have g:=(Below.cell hW (p:=⟨w.heap.size,0,none⟩) hzx).trans cx0;go_light;go_simp;rfl
    simp only[Pu]
    iterate 3 (refine rv ?_;simp only[Pu])
    refine r_val (v:=?qv100) (by kernel_rfl) (fun W hW=>?qh100) ?qr100
    case qh100=>have g:=(Below.cell hW (p:=⟨w.heap.size+1,0,none⟩) hzy).trans cy0;go_light;go_simp;rfl
    simp only[Pu]
    refine rv ?_;simp only[Pu]
    refine r_val (v:=?qv102) (by kernel_rfl) (fun W hW=>?qh102) ?qr102
    case qh102=>have g:=(Below.cell hW (p:=⟨w.heap.size,0,none⟩) hzx).trans cx0;go_light;go_simp;rfl
    simp only[Pu]
    iterate 5 (refine rv ?_;simp only[Pu])
    refine r_val (v:=?qv108) (by kernel_rfl) (fun W hW=>?qh108) ?qr108
    case qh108=>have g:=(Below.cell hW (p:=⟨w.heap.size+1,0,none⟩) hzy).trans cy0;go_light;go_simp;rfl
    simp only[Pu]
    refine rv ?_;simp only[Pu]
    refine r_val (v:=?qv110) (by kernel_rfl) (fun W hW=>?qh110) ?qr110
    case qh110=>have g:=(Below.cell hW (p:=⟨w.heap.size+1,1,none⟩) hzy).trans cy1;go_light;go_simp;rfl
    simp only[Pu]
    iterate 2 (refine rv ?_;simp only[Pu])
    refine r_val (v:=?qv113) (by kernel_rfl) (fun W hW=>?qh113) ?qr113
    case qh113=>have g:=(Below.cell hW (p:=⟨w.heap.size,0,none⟩) hzx).trans cx0;go_light;go_simp;rfl
    simp only[Pu]
    refine rv ?_;simp only[Pu]
    refine r_val (v:=?qv115) (by kernel_rfl) (fun W hW=>?qh115) ?qr115
    case qh115=>have g:=(Below.cell hW (p:=⟨w.heap.size,1,none⟩) hzx).trans cx1;go_light;go_simp;rfl
    simp only[Pu]
    iterate 4 (refine rv ?_;simp only[Pu])
    iterate 8 (refine rs ?_;simp only[Pu])
    iterate 2 (refine rv ?_;simp only[Pu])
    refine r_nil ?_
    intro w8 hw8
    go_wp2
    go_ret
    exact ⟨ret_b (by rw[HF.out,e1,h2,e3];rfl),HG.out.trans hw8⟩
 ·
  have e1:decide (X1<Y1)=false:=decide_eq_false h1
  clear q1 q2 q3 hm1 hm2
  go_enter Tryz.func94,Tryz.ntmps94
  go_upto_region 1 with (fail)
  rw[←HV.out]
  clear HV
  refine region_R (by kernel_rfl) (by kernel_rfl) ?_
  refine rv ?_;simp only[Pu]
  refine r_val (v:=?qv123) (by kernel_rfl) (fun W hW=>?qh123) ?qr123
  case qh123=>have g:=(Below.cell hW (p:=⟨w.heap.size+1,0,none⟩) hzy).trans cy0;go_light;go_simp;rfl
  simp only[Pu]
  refine rv ?_;simp only[Pu]
  refine r_val (v:=?qv125) (by kernel_rfl) (fun W hW=>?qh125) ?qr125
  case qh125=>have g:=(Below.cell hW (p:=⟨w.heap.size,0,none⟩) hzx).trans cx0;go_light;go_simp;rfl
  simp only[Pu]
  iterate 2 (refine rv ?_;simp only[Pu])
  iterate 6 (refine rs ?_;simp only[Pu])
  iterate 2 (refine rv ?_;simp only[Pu])
  iterate 11 (refine rs ?_;simp only[Pu])
  iterate 2 (refine rv ?_;simp only[Pu])
  iterate 8 (refine rs ?_;simp only[Pu])
  iterate 2 (refine rv ?_;simp only[Pu])
  refine r_nil ?_
  intro w8 hw8
  go_wp2
  go_ret
  exact ⟨ret_b (by rw[HF.out,e1];rfl),HG.out.trans hw8⟩
theorem whead_check (ag xf:Int) (A:Option Addr) (c:Nat) (l:List (Int×Int)) (hll:l.length≤400) (w:World) (hr:Ri w A l):Calls Tryz.prog 67 #[.agg #[.int .i64 ag, .int .i64 xf, .slice A l.length c]] w fun e w'=>e= .returned (.int .i64 (bif mayH ag xf l then 0 else 1))∧Gr w w':=by
 obtain ⟨V,hV⟩:∃V,V=w.alloc (.cells #[.int .i64 ag, .int .i64 xf, .slice A l.length c] 24):=⟨_,rfl⟩
 have gV:Gr w V:=by rw[hV];exact Gr.alloc (Gr.refl w) _
 have hz:w.heap.size<V.heap.size:=by rw[hV];simp
 have c0:V.cell? ⟨w.heap.size,0,none⟩=some (.int .i64 ag):=by rw[hV];go_simp
 have c1:V.cell? ⟨w.heap.size,1,none⟩=some (.int .i64 xf):=by rw[hV];go_simp
 have c2:V.cell? ⟨w.heap.size,2,none⟩=some (.slice A l.length c):=by rw[hV];go_simp
 have HV:=Lib.hid hV
 have HG:=Lib.hid gV
 have HR:=Lib.hid (hr.gr gV)
 clear hV gV hr
 by_cases n1:ag<1
 ·
  have HM:Hid (mayH ag xf l=false):=Lib.hid (mayH_no (.inl n1))
  go_enter Tryz.func67,Tryz.ntmps67
  go_upto_region 1 with (fail)
  rw[←HV.out]
  clear HV
  go_wp2
  go_ret
  exact ⟨by rw[HM.out];rfl,HG.out⟩
 by_cases n2:5<ag
 ·
  have HM:Hid (mayH ag xf l=false):=Lib.hid (mayH_no (.inr (.inl n2)))
  go_enter Tryz.func67,Tryz.ntmps67
  go_upto_region 1 with (fail)
  rw[←HV.out]
  clear HV
  go_wp2
  go_ret
  exact ⟨by rw[HM.out];rfl,HG.out⟩
 by_cases n3:xf<0
 ·
  have HM:Hid (mayH ag xf l=false):=Lib.hid (mayH_no (.inr (.inr (.inl n3))))
  go_enter Tryz.func67,Tryz.ntmps67
  go_upto_region 1 with (fail)
  rw[←HV.out]
  clear HV
  go_wp2
  go_ret
  exact ⟨by rw[HM.out];rfl,HG.out⟩
 by_cases n4:1000000<xf
 ·
  have HM:Hid (mayH ag xf l=false):=Lib.hid (mayH_no (.inr (.inr (.inr n4))))
  go_enter Tryz.func67,Tryz.ntmps67
  go_upto_region 1 with (fail)
  rw[←HV.out]
  clear HV
  go_wp2
  go_ret
  exact ⟨by rw[HM.out];rfl,HG.out⟩
 have HY:=Lib.hid (mayH_yes (l:=l) n1 n2 n3 n4)
 rcases Nat.eq_zero_or_pos l.length with h0|h0
 ·
  have hM:mayH ag xf l=false:=HY.out.trans (mayS_len (.inl (by rw[nats_len];exact h0)))
  have HM:=Lib.hid hM
  clear hM
  have h1:(l.length:Int)<1:=by omega
  clear h0
  go_enter Tryz.func67,Tryz.ntmps67
  go_upto_region 1 with (fail)
  rw[←HV.out]
  clear HV
  go_wp2
  go_ret
  exact ⟨by rw[HM.out];rfl,HG.out⟩
 rcases Nat.lt_or_ge 8 l.length with h8|h8
 ·
  have hM:mayH ag xf l=false:=HY.out.trans (mayS_len (.inr (by rw[nats_len];exact h8)))
  have HM:=Lib.hid hM
  clear hM
  have h1:¬(l.length:Int)<1:=by omega
  have h2:(8:Int)<(l.length:Int):=by omega
  clear h0 h8
  go_enter Tryz.func67,Tryz.ntmps67
  go_upto_region 1 with (fail)
  rw[←HV.out]
  clear HV
  go_wp2
  go_ret
  exact ⟨by rw[HM.out];rfl,HG.out⟩
 have h1:¬(l.length:Int)<1:=by omega
 have h2:¬(8:Int)<(l.length:Int):=by omega
 have H8:=Lib.hid (And.intro h0 h8)
 clear h0 h8
 go_enter Tryz.func67,Tryz.ntmps67
 go_upto_region 1 with (fail)
 rw[←HV.out]
 clear HV
 go_upto_region 3 with (fail)
 clear n1 n2 n3 n4
 go_wp2
 go_loopw [39] (fun i wr=>∃k:Nat,k≤l.length∧i= .int .i64 k∧(∀j,j<k→stepOk (nats l) j=true)∧Gr V wr) (fun i _=>l.length-(intOf i).toNat)
 case atStart=>exact ⟨0,Nat.zero_le _,rfl,fun j hj=>absurd hj (Nat.not_lt_zero _),Gr.refl _⟩
 case round=>
  obtain ⟨k,hk,rfl,hall,hgr⟩:=hrel
  have Hall:=Lib.hid hall
  have Hgr:=Lib.hid hgr
  have hzw:w.heap.size<wr.heap.size:=Nat.lt_of_lt_of_le hz hgr.size
  have c2':=(Below.cell hgr (p:=⟨w.heap.size,2,none⟩) hz).trans c2
  clear hall c2
  have c2:=c2'
  clear c2'
  by_cases hlt:k<l.length
  ·
   have hlt':(k:Int)<(l.length:Int):=by omega
   obtain ⟨ad,rfl,hb,hc⟩:=(HR.out.gr hgr) (by omega)
   have hbn:∀n,(ad.add n).block<wr.heap.size:=fun n=>by rw[adB];exact hb
   obtain ⟨d0,d1⟩:=hc k hlt
   have Hc:=Lib.hid hc
   have hst:=stepOk_at (l:=nats l) (k:=k) (by rw[nats_len];exact hlt)
   rw[nats_at l k hlt (by rw[nats_len];exact hlt)] at hst
   have hgr0:=Hgr
   clear hc hgr
   have hxl:l[k]=(l[k].1,l[k].2):=rfl
   obtain ⟨x1,hx1⟩:∃x,x=l[k].1:=⟨_,rfl⟩
   obtain ⟨x2,hx2⟩:∃x,x=l[k].2:=⟨_,rfl⟩
   rw[←hx1] at d0 hst
   rw[←hx2] at d1 hst
   have Hst:=Lib.hid hst
   clear hx1 hx2 hst hxl
   go_upto_region 6 with (fail)
   obtain ⟨wB,hwB⟩:∃wB,wB=wr.alloc (.cells #[.int .i64 x1, .int .i64 x2] 69):=⟨_,rfl⟩
   have gB:Gr wr wB:=by rw[hwB];exact Gr.alloc (Gr.refl wr) _
   have hz4:wr.heap.size<wB.heap.size:=by rw[hwB];simp
   have e0:wB.cell? ⟨wr.heap.size,0,none⟩=some (.int .i64 x1):=by rw[hwB];go_simp
   have e1:wB.cell? ⟨wr.heap.size,1,none⟩=some (.int .i64 x2):=by rw[hwB];go_simp
   rw[←hwB]
   have hbw:∀n,(ad.add n).block<wB.heap.size:=fun n=>Nat.lt_of_lt_of_le (hbn n) gB.size
   have c2':=(Below.cell gB (p:=⟨w.heap.size,2,none⟩) hzw).trans c2
   have hzw':=Nat.lt_of_lt_of_le hzw gB.size
   have Hc':Hid (∀j (h:j<l.length),wB.cell? (ad.add (j*2))=some (.int .i64 l[j].1)∧wB.cell? ⟨(ad.add (j*2)).block,(ad.add (j*2)).off+1,none⟩=some (.int .i64 l[j].2)):=Lib.hid fun j h=>⟨(Below.cell gB (p:=ad.add (j*2)) (hbn _)).trans (Hc.out j h).1,(Below.cell gB (p:=⟨(ad.add (j*2)).block,(ad.add (j*2)).off+1,none⟩) (hbn _)).trans (Hc.out j h).2⟩
   have HgB:=Lib.hid (hgr0.out.trans gB)
   generalize wr.heap.size=B4 at hz4 e0 e1 ⊢
   clear hwB c0 c1 c2 hzw d0 d1 hb Hc gB
   have c2:=c2'
   have hzw:=hzw'
   clear c2' hzw'
   by_cases m1:x1<1
   ·
    have HM:Hid (mayH ag xf l=false):=Lib.hid (HY.out.trans (mayS_step (by rw[nats_len];exact hlt) (by rw[Hst.out,one_no (by omega)];rfl)))
    have t1:x1<1:=by omega
    have t2:decide (x1<1)=true:=decide_eq_true t1
    clear Hst hlt m1
    refine region_R (by kernel_rfl) (by kernel_rfl) ?_
    refine rv ?_;simp only[Pu]
    refine r_val (v:=?qv2) (by kernel_rfl) (fun W hW=>?qh2) ?qr2
    case qh2=>have g:=(Below.cell hW (p:=⟨B4,0,none⟩) hz4).trans e0;go_light;go_simp;rfl
    simp only[Pu]
    iterate 2 (refine rv ?_;simp only[Pu])
    iterate 3 (refine rs ?_;simp only[Pu])
    iterate 2 (refine rv ?_;simp only[Pu])
    iterate 3 (refine rs ?_;simp only[Pu])
    iterate 2 (refine rv ?_;simp only[Pu])
    iterate 3 (refine rs ?_;simp only[Pu])
    iterate 2 (refine rv ?_;simp only[Pu])
    iterate 13 (refine rs ?_;simp only[Pu])
    refine rv ?_;simp only[Pu]
    refine r_nil ?_
    intro w8 hw8
    have HW9:=Lib.hid hw8
    clear hw8
    go_wp2
    go_ret
    exact ⟨by rw[HM.out];rfl,(HG.out.trans HgB.out).trans HW9.out⟩
   by_cases m2:16777216<x1
   ·
    have HM:Hid (mayH ag xf l=false):=Lib.hid (HY.out.trans (mayS_step (by rw[nats_len];exact hlt) (by rw[Hst.out,one_no (by omega)];rfl)))
    have t1:¬x1<1:=by omega
    have t2:(16777216:Int)<x1:=by omega
    have t3:decide (x1<1)=false:=decide_eq_false t1
    have t4:decide ((16777216:Int)<x1)=true:=decide_eq_true t2
    clear Hst hlt m1 m2
    refine region_R (by kernel_rfl) (by kernel_rfl) ?_
    refine rv ?_;simp only[Pu]
    refine r_val (v:=?qv13) (by kernel_rfl) (fun W hW=>?qh13) ?qr13
    case qh13=>have g:=(Below.cell hW (p:=⟨B4,0,none⟩) hz4).trans e0;go_light;go_simp;rfl
    simp only[Pu]
    iterate 3 (refine rv ?_;simp only[Pu])
    refine r_val (v:=?qv17) (by kernel_rfl) (fun W hW=>?qh17) ?qr17
    case qh17=>have g:=(Below.cell hW (p:=⟨B4,0,none⟩) hz4).trans e0;go_light;go_simp;rfl
    simp only[Pu]
    iterate 3 (refine rv ?_;simp only[Pu])
    iterate 3 (refine rs ?_;simp only[Pu])
    iterate 2 (refine rv ?_;simp only[Pu])
    iterate 3 (refine rs ?_;simp only[Pu])
    iterate 2 (refine rv ?_;simp only[Pu])
    iterate 13 (refine rs ?_;simp only[Pu])
    refine rv ?_;simp only[Pu]
    refine r_nil ?_
    intro w8 hw8
    have HW9:=Lib.hid hw8
    clear hw8
    go_wp2
    go_ret
    exact ⟨by rw[HM.out];rfl,(HG.out.trans HgB.out).trans HW9.out⟩
   by_cases m3:x2<1
   ·
    have HM:Hid (mayH ag xf l=false):=Lib.hid (HY.out.trans (mayS_step (by rw[nats_len];exact hlt) (by rw[Hst.out,one_no (by omega)];rfl)))
    have t1:¬x1<1:=by omega
    have t2:¬(16777216:Int)<x1:=by omega
    have t5:x2<1:=by omega
    have t3:decide (x1<1)=false:=decide_eq_false t1
    have t4:decide ((16777216:Int)<x1)=false:=decide_eq_false t2
    have t6:decide (x2<1)=true:=decide_eq_true t5
    clear Hst hlt m1 m2 m3
    refine region_R (by kernel_rfl) (by kernel_rfl) ?_
    refine rv ?_;simp only[Pu]
    refine r_val (v:=?qv27) (by kernel_rfl) (fun W hW=>?qh27) ?qr27
    case qh27=>have g:=(Below.cell hW (p:=⟨B4,0,none⟩) hz4).trans e0;go_light;go_simp;rfl
    simp only[Pu]
    iterate 3 (refine rv ?_;simp only[Pu])
    refine r_val (v:=?qv31) (by kernel_rfl) (fun W hW=>?qh31) ?qr31
    case qh31=>have g:=(Below.cell hW (p:=⟨B4,0,none⟩) hz4).trans e0;go_light;go_simp;rfl
    simp only[Pu]
    iterate 4 (refine rv ?_;simp only[Pu])
    refine r_val (v:=?qv36) (by kernel_rfl) (fun W hW=>?qh36) ?qr36
    case qh36=>have g:=(Below.cell hW (p:=⟨B4,1,none⟩) hz4).trans e1;go_light;go_simp;rfl
    simp only[Pu]
    iterate 3 (refine rv ?_;simp only[Pu])
    iterate 3 (refine rs ?_;simp only[Pu])
    iterate 2 (refine rv ?_;simp only[Pu])
    iterate 13 (refine rs ?_;simp only[Pu])
    refine rv ?_;simp only[Pu]
    refine r_nil ?_
    intro w8 hw8
    have HW9:=Lib.hid hw8
    clear hw8
    go_wp2
    go_ret
    exact ⟨by rw[HM.out];rfl,(HG.out.trans HgB.out).trans HW9.out⟩
   have t1:¬x1<1:=by omega
   have t2:¬(16777216:Int)<x1:=by omega
   have t5:¬x2<1:=by omega
   have t3:decide (x1<1)=false:=decide_eq_false t1
   have t4:decide ((16777216:Int)<x1)=false:=decide_eq_false t2
   have t6:decide (x2<1)=false:=decide_eq_false t5
   by_cases m4:16777216<x2
   ·
    have HM:Hid (mayH ag xf l=false):=Lib.hid (HY.out.trans (mayS_step (by rw[nats_len];exact hlt) (by rw[Hst.out,one_no (by omega)];rfl)))
    have t7:(16777216:Int)<x2:=by omega
    have t8:decide ((16777216:Int)<x2)=true:=decide_eq_true t7
    clear Hst hlt m1 m2 m3 m4
    refine region_R (by kernel_rfl) (by kernel_rfl) ?_
    refine rv ?_;simp only[Pu]
    refine r_val (v:=?qv44) (by kernel_rfl) (fun W hW=>?qh44) ?qr44
    case qh44=>have g:=(Below.cell hW (p:=⟨B4,0,none⟩) hz4).trans e0;go_light;go_simp;rfl
    simp only[Pu]
    iterate 3 (refine rv ?_;simp only[Pu])
    refine r_val (v:=?qv48) (by kernel_rfl) (fun W hW=>?qh48) ?qr48
    case qh48=>have g:=(Below.cell hW (p:=⟨B4,0,none⟩) hz4).trans e0;go_light;go_simp;rfl
    simp only[Pu]
    iterate 4 (refine rv ?_;simp only[Pu])
    refine r_val (v:=?qv53) (by kernel_rfl) (fun W hW=>?qh53) ?qr53
    case qh53=>have g:=(Below.cell hW (p:=⟨B4,1,none⟩) hz4).trans e1;go_light;go_simp;rfl
    simp only[Pu]
    iterate 4 (refine rv ?_;simp only[Pu])
    refine r_val (v:=?qv58) (by kernel_rfl) (fun W hW=>?qh58) ?qr58
    case qh58=>have g:=(Below.cell hW (p:=⟨B4,1,none⟩) hz4).trans e1;go_light;go_simp;rfl
    simp only[Pu]
    iterate 3 (refine rv ?_;simp only[Pu])
    iterate 13 (refine rs ?_;simp only[Pu])
    refine rv ?_;simp only[Pu]
    refine r_nil ?_
    intro w8 hw8
    have HW9:=Lib.hid hw8
    clear hw8
    go_wp2
    go_ret
    exact ⟨by rw[HM.out];rfl,(HG.out.trans HgB.out).trans HW9.out⟩
   have t7:¬(16777216:Int)<x2:=by omega
   have t8:decide ((16777216:Int)<x2)=false:=decide_eq_false t7
   obtain ⟨z1,rfl⟩:∃z:Nat,x1=z:=⟨x1.toNat,by omega⟩
   obtain ⟨z2,rfl⟩:∃z:Nat,x2=z:=⟨x2.toNat,by omega⟩
   have hst0:=Hst.out
   simp only[Int.toNat_natCast] at hst0
   clear Hst
   have Hst:=Lib.hid hst0
   clear hst0
   have hone:oneOk (z1,z2)=true:=oneOk_iff.2 ⟨by simp only;omega,by simp only;omega,by simp only;omega,by simp only;omega⟩
   have Hone:=Lib.hid hone
   rcases k with _|j
   ·
    have HT:Hid (stepOk (nats l) 0=true):=Lib.hid (by rw[Hst.out,hone];rfl)
    clear hone m1 m2 m3 m4
    have zz1:decide ((0:Int)<((0:Nat):Int))=false:=by decide
    refine region_R (by kernel_rfl) (by kernel_rfl) ?_
    refine rv ?_;simp only[Pu]
    refine r_val (v:=?qv97) (by kernel_rfl) (fun W hW=>?qh97) ?qr97
    case qh97=>have g:=(Below.cell hW (p:=⟨B4,0,none⟩) hz4).trans e0;go_light;go_simp;rfl
    simp only[Pu]
    iterate 3 (refine rv ?_;simp only[Pu])
    refine r_val (v:=?qv101) (by kernel_rfl) (fun W hW=>?qh101) ?qr101
    case qh101=>have g:=(Below.cell hW (p:=⟨B4,0,none⟩) hz4).trans e0;go_light;go_simp;rfl
    simp only[Pu]
    iterate 4 (refine rv ?_;simp only[Pu])
    refine r_val (v:=?qv106) (by kernel_rfl) (fun W hW=>?qh106) ?qr106
    case qh106=>have g:=(Below.cell hW (p:=⟨B4,1,none⟩) hz4).trans e1;go_light;go_simp;rfl
    simp only[Pu]
    iterate 4 (refine rv ?_;simp only[Pu])
    refine r_val (v:=?qv111) (by kernel_rfl) (fun W hW=>?qh111) ?qr111
    case qh111=>have g:=(Below.cell hW (p:=⟨B4,1,none⟩) hz4).trans e1;go_light;go_simp;rfl
    simp only[Pu]
    iterate 6 (refine rv ?_;simp only[Pu])
    iterate 9 (refine rs ?_;simp only[Pu])
    iterate 2 (refine rv ?_;simp only[Pu])
    refine r_nil ?_
    intro w8 hw8
    have e1a:=(Below.cell hw8 (p:=⟨B4,1,none⟩) hz4).trans e1
    have hz8:=Nat.lt_of_lt_of_le hz4 hw8.size
    have c2a:=(Below.cell hw8 (p:=⟨w.heap.size,2,none⟩) hzw).trans c2
    have H8w:=Lib.hid (HgB.out.trans hw8)
    clear e0 e1 c2 hz4 hw8
    go_wp2
    go_roundw
    case rel=>exact ⟨0+1,by omega,by go_num,(fun i hi=>by rcases Nat.lt_succ_iff_lt_or_eq.1 hi with h|h;exact Hall.out i h;rw[h];exact HT.out),H8w.out⟩
    case measure=>simp[intOf];omega
   ·
    have hj:j<l.length:=by omega
    obtain ⟨p0,p1⟩:=Hc'.out j hj
    have hjn:j<(nats l).length:=by rw[nats_len];exact hj
    have hone1:oneOk (nats l)[j]=true:=by
     have:=Hall.out j (Nat.lt_succ_self _)
     rw[stepOk_at hjn,Bool.and_eq_true] at this
     exact this.1
    rw[nats_one hj hjn hone1] at p0 p1
    obtain ⟨y,hy⟩:∃y,y=(nats l)[j]:=⟨_,rfl⟩
    have hst:=Hst.out
    simp only[Nat.add_sub_cancel] at hst
    rw[←hy] at hone1 p0 p1 hst
    obtain ⟨F,hF⟩:∃F,F=fitsS y (z1,z2):=⟨_,rfl⟩
    have hst2:stepOk (nats l) (j+1)=F:=by rw[hst,hone,hF];simp
    have hcall:=fun W=>whead_fits y (z1,z2) hone1 hone W
    rw[←hF] at hcall
    obtain ⟨y1,y2⟩:=y
    simp only at p0 p1 hcall
    have HCALL:=Lib.hid hcall
    have HST:=Lib.hid hst2
    have zz1:decide ((0:Int)<(j:Int)+1)=true:=by rw[decide_eq_true_eq];omega
    have zz2:(0:Int)<(j:Int)+1:=by omega
    have hji:(j:Int)≤400:=by omega
    have zw:IntKind.i64.wrap (j:Int)=(j:Int):=IntWalk.i64_in (j:Int) (by omega)
    have hjl:(j:Int)<(l.length:Int):=by omega
    clear hone hone1 hF hst hst2 hcall hy hj hjn m1 m2 m3 m4
    cases F with
    | false=>
     have HM:Hid (mayH ag xf l=false):=Lib.hid (HY.out.trans (mayS_step (by rw[nats_len];exact hlt) HST.out))
     clear Hst hlt
     refine region_R (by kernel_rfl) (by kernel_rfl) ?_
     refine rv ?_;simp only[Pu]
     refine r_val (v:=?qv64) (by kernel_rfl) (fun W hW=>?qh64) ?qr64
     case qh64=>have g:=(Below.cell hW (p:=⟨B4,0,none⟩) hz4).trans e0;go_light;go_simp;rfl
     simp only[Pu]
     iterate 3 (refine rv ?_;simp only[Pu])
     refine r_val (v:=?qv68) (by kernel_rfl) (fun W hW=>?qh68) ?qr68
     case qh68=>have g:=(Below.cell hW (p:=⟨B4,0,none⟩) hz4).trans e0;go_light;go_simp;rfl
     simp only[Pu]
     iterate 4 (refine rv ?_;simp only[Pu])
     refine r_val (v:=?qv73) (by kernel_rfl) (fun W hW=>?qh73) ?qr73
     case qh73=>have g:=(Below.cell hW (p:=⟨B4,1,none⟩) hz4).trans e1;go_light;go_simp;rfl
     simp only[Pu]
     iterate 4 (refine rv ?_;simp only[Pu])
     refine r_val (v:=?qv78) (by kernel_rfl) (fun W hW=>?qh78) ?qr78
     case qh78=>have g:=(Below.cell hW (p:=⟨B4,1,none⟩) hz4).trans e1;go_light;go_simp;rfl
     simp only[Pu]
     iterate 7 (refine rv ?_;simp only[Pu])
     refine r_val (v:=?qv86) (by kernel_rfl) (fun W hW=>?qh86) ?qr86
     case qh86=>have g:=(Below.cell hW (p:=⟨w.heap.size,2,none⟩) hzw).trans c2;go_light;go_simp;rfl
     simp only[Pu]
     iterate 3 (refine rv ?_;simp only[Pu])
     refine r_val (v:=?qv90) (by kernel_rfl) (fun W hW=>?qh90) ?qr90
     case qh90=>have g:=(Below.cell hW (p:=ad.add (j*2)) (hbw _)).trans p0;have g2:=(Below.cell hW (p:=⟨(ad.add (j*2)).block,(ad.add (j*2)).off+1,none⟩) (hbw _)).trans p1;go_light;go_simp;rfl
     simp only[Pu]
     refine r_val (v:=?qv91) (by kernel_rfl) (fun W hW=>?qh91) ?qr91
     case qh91=>have g:=(Below.cell hW (p:=⟨B4,0,none⟩) hz4).trans e0;have g2:=(Below.cell hW (p:=⟨B4,1,none⟩) hz4).trans e1;go_light;go_simp;rfl
     simp only[Pu]
     refine r_call (v:= .bool false) (f:=?qf92) (args:=?qa92) (by kernel_rfl) (fun W hW=>?qh92) (fun W hW=>?qc92) ?qr92
     case qh92=>go_light;go_simp;constructor<;>rfl
     case qc92=>exact (HCALL.out _).mono (fun e w' h=>⟨h.1,Gr.trans hW h.2⟩)
     simp only[Pu]
     iterate 3 (refine rv ?_;simp only[Pu])
     refine r_nil ?_
     intro w8 hw8
     have HW9:=Lib.hid hw8
     clear hw8
     go_wp2
     go_ret
     exact ⟨by rw[HM.out];rfl,(HG.out.trans HgB.out).trans HW9.out⟩
    | true=>
     refine region_R (by kernel_rfl) (by kernel_rfl) ?_
     refine rv ?_;simp only[Pu]
     refine r_val (v:=?qv121) (by kernel_rfl) (fun W hW=>?qh121) ?qr121
     case qh121=>have g:=(Below.cell hW (p:=⟨B4,0,none⟩) hz4).trans e0;go_light;go_simp;rfl
     simp only[Pu]
     iterate 3 (refine rv ?_;simp only[Pu])
     refine r_val (v:=?qv125) (by kernel_rfl) (fun W hW=>?qh125) ?qr125
     case qh125=>have g:=(Below.cell hW (p:=⟨B4,0,none⟩) hz4).trans e0;go_light;go_simp;rfl
     simp only[Pu]
     iterate 4 (refine rv ?_;simp only[Pu])
     refine r_val (v:=?qv130) (by kernel_rfl) (fun W hW=>?qh130) ?qr130
     case qh130=>have g:=(Below.cell hW (p:=⟨B4,1,none⟩) hz4).trans e1;go_light;go_simp;rfl
     simp only[Pu]
     iterate 4 (refine rv ?_;simp only[Pu])
     refine r_val (v:=?qv135) (by kernel_rfl) (fun W hW=>?qh135) ?qr135
     case qh135=>have g:=(Below.cell hW (p:=⟨B4,1,none⟩) hz4).trans e1;go_light;go_simp;rfl
     simp only[Pu]
     iterate 7 (refine rv ?_;simp only[Pu])
     refine r_val (v:=?qv143) (by kernel_rfl) (fun W hW=>?qh143) ?qr143
     case qh143=>have g:=(Below.cell hW (p:=⟨w.heap.size,2,none⟩) hzw).trans c2;go_light;go_simp;rfl
     simp only[Pu]
     iterate 3 (refine rv ?_;simp only[Pu])
     refine r_val (v:=?qv147) (by kernel_rfl) (fun W hW=>?qh147) ?qr147
     case qh147=>have g:=(Below.cell hW (p:=ad.add (j*2)) (hbw _)).trans p0;have g2:=(Below.cell hW (p:=⟨(ad.add (j*2)).block,(ad.add (j*2)).off+1,none⟩) (hbw _)).trans p1;go_light;go_simp;rfl
     simp only[Pu]
     refine r_val (v:=?qv148) (by kernel_rfl) (fun W hW=>?qh148) ?qr148
     case qh148=>have g:=(Below.cell hW (p:=⟨B4,0,none⟩) hz4).trans e0;have g2:=(Below.cell hW (p:=⟨B4,1,none⟩) hz4).trans e1;go_light;go_simp;rfl
     simp only[Pu]
     refine r_call (v:= .bool true) (f:=?qf149) (args:=?qa149) (by kernel_rfl) (fun W hW=>?qh149) (fun W hW=>?qc149) ?qr149
     case qh149=>go_light;go_simp;constructor<;>rfl
     case qc149=>exact (HCALL.out _).mono (fun e w' h=>⟨h.1,Gr.trans hW h.2⟩)
     simp only[Pu]
     iterate 3 (refine rv ?_;simp only[Pu])
     refine r_nil ?_
     intro w8 hw8
     have e1a:=(Below.cell hw8 (p:=⟨B4,1,none⟩) hz4).trans e1
     have hz8:=Nat.lt_of_lt_of_le hz4 hw8.size
     have c2a:=(Below.cell hw8 (p:=⟨w.heap.size,2,none⟩) hzw).trans c2
     have H8w:=Lib.hid (HgB.out.trans hw8)
     clear e0 e1 c2 hz4 hw8
     go_wp2
     go_roundw
     case rel=>exact ⟨j+1+1,by omega,by go_num,(fun i hi=>by rcases Nat.lt_succ_iff_lt_or_eq.1 hi with h|h;exact Hall.out i h;rw[h];exact HST.out),H8w.out⟩
     case measure=>simp[intOf];omega
  ·
   have hkk:k=l.length:=by omega
   subst hkk
   have hx:=H8.out.1
   obtain ⟨m,hm⟩:∃m,l.length=m+1:=⟨l.length-1,by omega⟩
   have hml:m<l.length:=by omega
   obtain ⟨ad,rfl,hb,hc⟩:=(HR.out.gr hgr) hx
   obtain ⟨d0,d1⟩:=hc m hml
   have hmn:m<(nats l).length:=by rw[nats_len];exact hml
   have hone:∀j (h:j<(nats l).length),oneOk (nats l)[j]=true:=fun j h=>by
    have:=Hall.out j (by rw[nats_len] at h;exact h)
    rw[stepOk_at h,Bool.and_eq_true] at this
    exact this.1
   have hin:=ints_nats hone
   have hnl:=nats_len l
   obtain ⟨L,hL⟩:∃L,L=nats l:=⟨_,rfl⟩
   have hlast:lastS L=L[m]'(by rw[hL];exact hmn):=by rw[lastS_at (by rw[hL,nats_len];exact hx)];congr 1;rw[hL,nats_len];omega
   have hle2:∀a∈L,a.2≤16777216:=fun a ha=>by
    rw[hL] at ha
    obtain ⟨j,h,rfl⟩:=List.mem_iff_getElem.1 ha
    exact (oneOk_iff.1 (hone j h)).2.2.2
   have hol:=oneOk_iff.1 (hone m hmn)
   have hrest:=fun h=>mayS_rest (l:=nats l) (by rw[nats_len];exact hx) (by rw[nats_len];exact H8.out.2) (fun k hk=>Hall.out k (by rw[nats_len] at hk;exact hk)) h
   rw[nats_one hml hmn (hone m hmn)] at d0 d1
   rw[←hL] at hnl hin
   simp only[←hL] at hol hrest d0 d1
   rw[hlast] at hrest
   obtain ⟨x1,hx1⟩:∃x,x=(L[m]'(by rw[hL];exact hmn)).1:=⟨_,rfl⟩
   obtain ⟨x2,hx2⟩:∃x,x=(L[m]'(by rw[hL];exact hmn)).2:=⟨_,rfl⟩
   rw[←hx1] at d0 hol hrest
   rw[←hx2] at d1 hol hrest
   have hw:=prod_small (x1:Int) x2 (by omega) (by omega) (by omega) (by omega)
   have HYL:Hid (mayH ag xf l=mayS L):=Lib.hid (by rw[hL];exact HY.out)
   have Hrest:=Lib.hid hrest
   have Hrr:=Lib.hid (HR.out.gr hgr)
   have Hin:=Lib.hid hin
   have Hnl:=Lib.hid hnl
   clear hx1 hx2 hlast hone hol hrest hc hx hL hmn hin hnl
   rw[hm] at c2 ⊢
   have hmi:(m:Int)≤400:=by omega
   have zm:IntKind.i64.wrap (m:Int)=(m:Int):=IntWalk.i64_in (m:Int) (by omega)
   clear hlt h1 h2 hml
   go_upto_region 10 with (fail)
   obtain ⟨wC,hwC⟩:∃wC,wC=wr.alloc (.cells #[.int .i64 x1, .int .i64 x2] 69):=⟨_,rfl⟩
   have gC:Gr wr wC:=by rw[hwC];exact Gr.alloc (Gr.refl wr) _
   have hz5:wr.heap.size<wC.heap.size:=by rw[hwC];simp
   have e0:wC.cell? ⟨wr.heap.size,0,none⟩=some (.int .i64 x1):=by rw[hwC];go_simp
   have e1:wC.cell? ⟨wr.heap.size,1,none⟩=some (.int .i64 x2):=by rw[hwC];go_simp
   rw[←hwC]
   have c0':=(Below.cell (hgr.trans gC) (p:=⟨w.heap.size,0,none⟩) hz).trans c0
   have c1':=(Below.cell (hgr.trans gC) (p:=⟨w.heap.size,1,none⟩) hz).trans c1
   have c2':=(Below.cell gC (p:=⟨w.heap.size,2,none⟩) hzw).trans c2
   have HRC:=Lib.hid (Hrr.out.gr gC)
   have HGC:=Lib.hid (hgr.trans gC)
   generalize wr.heap.size=B5 at hz5 e0 e1 ⊢
   clear hwC gC c0 c1 c2 d0 d1 hb
   have hcs:=fun W (hW:Ri W (some ad) l)=>whead_size ag xf (some ad) c L (by rw[Hnl.out];exact H8.out.2) hle2 W (by rw[Hin.out];exact hW)
   rw[Hnl.out] at hcs
   obtain ⟨S,hS⟩:∃S,S=sizeS L:=⟨_,rfl⟩
   rw[←hS,hm] at hcs
   have HCS:=Lib.hid hcs
   have HSS:=Lib.hid hS
   clear hcs hS hle2 hm hgr
   by_cases s1:1048576<S
   ·
    have s2:(1048576:Int)<(S:Int):=by omega
    have HM:Hid (mayH ag xf l=false):=Lib.hid (HYL.out.trans (mayS_size (by rw[←HSS.out];exact s1)))
    clear s1
    go_wp2_with (go_at_call 70;refine (HCS.out _ HRC.out).mono ?_;rintro e wD ⟨rfl,gD⟩;have e0b:=(Below.cell gD (p:=⟨B5,0,none⟩) hz5).trans e0;have e1b:=(Below.cell gD (p:=⟨B5,1,none⟩) hz5).trans e1;clear e0 e1;have GD:=Lib.hid gD;clear gD)
    go_ret
    exact ⟨by rw[HM.out];rfl,(HG.out.trans HGC.out).trans GD.out⟩
   ·
    have s2:¬(1048576:Int)<(S:Int):=by omega
    have hM:=Hrest.out (by rw[←HSS.out];omega)
    clear s1
    by_cases u1:x1*x2≤maxTime
    ·
     have u2:¬(4294967295:Int)<(x1:Int)*(x2:Int):=by rw[←Int.natCast_mul];unfold maxTime at u1;omega
     have u3:decide ((4294967295:Int)<(x1:Int)*(x2:Int))=false:=decide_eq_false u2
     have HM:Hid (mayH ag xf l=true):=Lib.hid (by rw[HYL.out,hM,Nat.ble_eq];exact u1)
     clear u1 hM
     go_wp2_with (go_at_call 70;refine (HCS.out _ HRC.out).mono ?_;rintro e wD ⟨rfl,gD⟩;have e0b:=(Below.cell gD (p:=⟨B5,0,none⟩) hz5).trans e0;have e1b:=(Below.cell gD (p:=⟨B5,1,none⟩) hz5).trans e1;clear e0 e1;have GD:=Lib.hid gD;clear gD)
     go_ret
     exact ⟨by rw[HM.out];rfl,(HG.out.trans HGC.out).trans GD.out⟩
    ·
     have u2:(4294967295:Int)<(x1:Int)*(x2:Int):=by rw[←Int.natCast_mul];unfold maxTime at u1;omega
     have u3:decide ((4294967295:Int)<(x1:Int)*(x2:Int))=true:=decide_eq_true u2
     have HM:Hid (mayH ag xf l=false):=Lib.hid (by rw[HYL.out,hM,Bool.eq_false_iff,ne_eq,Nat.ble_eq];exact u1)
     clear u1 hM
     go_wp2_with (go_at_call 70;refine (HCS.out _ HRC.out).mono ?_;rintro e wD ⟨rfl,gD⟩;have e0b:=(Below.cell gD (p:=⟨B5,0,none⟩) hz5).trans e0;have e1b:=(Below.cell gD (p:=⟨B5,1,none⟩) hz5).trans e1;clear e0 e1;have GD:=Lib.hid gD;clear gD)
     go_ret
     exact ⟨by rw[HM.out];rfl,(HG.out.trans HGC.out).trans GD.out⟩
def offS (m:List (Nat×Nat)) (i:Nat):Nat:=16+12*m.length+12*((m.take i).map fun a=>a.2).sum
theorem offS_succ {m:List (Nat×Nat)} {i:Nat} (h:i<m.length):offS m (i+1)=offS m i+12*m[i].2:=by
 unfold offS
 rw[List.take_succ_eq_append_getElem h,List.map_append,List.sum_append]
 simp only[List.map_cons,List.map_nil,List.sum_cons,List.sum_nil]
 omega
theorem sizeS_eq (m:List (Nat×Nat)):sizeS m=16+12*m.length+12*(m.map fun a=>a.2).sum:=by
 unfold sizeS
 induction m with
 | nil=>rfl
 | cons a r ih=>
  simp only[List.map_cons,List.sum_cons,List.length_cons] at ih ⊢
  omega
theorem offS_len (m:List (Nat×Nat)):offS m m.length=sizeS m:=by rw[sizeS_eq,offS,List.take_length]
theorem offS_mono {m:List (Nat×Nat)}:∀{j i:Nat},i≤j→j≤m.length→offS m i≤offS m j
 | 0,i,h,_=>by rw[Nat.le_zero.1 h];exact Nat.le_refl _
 | j+1,i,h,hj=>by
  rcases Nat.lt_or_ge j i with h1|h1
  ·
   rw[show i=j+1 by omega];exact Nat.le_refl _
  ·
   rw[offS_succ (show j<m.length by omega)]
   have:=offS_mono (m:=m) h1 (by omega)
   omega
theorem offS_le {m:List (Nat×Nat)} {i:Nat} (h:i≤m.length):offS m i≤sizeS m:=by rw[←offS_len];exact offS_mono h (Nat.le_refl _)
theorem offset_any (ag xf:Int) (A:Option Addr) (c:Nat) (m:List (Nat×Nat)) (hM:mayH ag xf (ints m)=true) (hcap:m.length≤c) (i:Nat) (hi:i<m.length) (w:World) (hr:Ri w A (ints m)):Calls Tryz.prog 64 #[.agg #[.int .i64 ag, .int .i64 xf, .slice A m.length c], .int .i64 i] w fun e w'=>e= .returned (.int .i64 (offS m i:Nat))∧Gr w w':=by
 obtain ⟨l,hl⟩:∃l,l=ints m:=⟨_,rfl⟩
 have hnm:=nats_ints m
 have hf:=mayS_facts (m:=m) (by rw[←hnm];have h:=hM;unfold mayH at h;rw[Bool.and_eq_true] at h;exact h.2)
 have hll:l.length≤400:=by rw[hl,ints_len];omega
 have hml:m.length=l.length:=by rw[hl,ints_len]
 rw[←hl] at hM hr
 rw[hml]
 obtain ⟨V,hV⟩:∃V,V=w.alloc (.cells #[.int .i64 ag, .int .i64 xf, .slice A l.length c] 24):=⟨_,rfl⟩
 have gV:Gr w V:=by rw[hV];exact Gr.alloc (Gr.refl w) _
 have hz:w.heap.size<V.heap.size:=by rw[hV];simp
 have c0:V.cell? ⟨w.heap.size,0,none⟩=some (.int .i64 ag):=by rw[hV];go_simp
 have c1:V.cell? ⟨w.heap.size,1,none⟩=some (.int .i64 xf):=by rw[hV];go_simp
 have c2:V.cell? ⟨w.heap.size,2,none⟩=some (.slice A l.length c):=by rw[hV];go_simp
 have HV:=Lib.hid hV
 have HG:=Lib.hid gV
 have HR:=Lib.hid (hr.gr gV)
 have hck:=fun W (hW:Ri W A l)=>whead_check ag xf A c l hll W hW
 clear hV gV hr
 rw[hM] at hck
 have HCK:=Lib.hid hck
 have hin:=fun W (hW:Ri W A l) (k:Nat) (hk:k<m.length)=>(show ∃ad:Addr,A=some ad∧ad.block<W.heap.size∧W.cell? ⟨(ad.add (k*2)).block,(ad.add (k*2)).off+1,none⟩=some (.int .i64 (m[k].2:Nat))∧W.cell? (ad.add (k*2))=some (.int .i64 (m[k].1:Nat)) by
  obtain ⟨b,h1,h2,h3⟩:=hW (by omega)
  obtain ⟨p0,p1⟩:=h3 k (by omega)
  subst hl
  rw[ints_at m k hk] at p0 p1
  exact ⟨b,h1,h2,p1,p0⟩)
 have HIN:=Lib.hid hin
 have hbd:=Lib.hid hf.2.2.2.2
 have hszb:sizeS m≤1048576:=hf.2.2.1
 have hle:∀k,k≤m.length→offS m k≤1048576:=fun k h=>Nat.le_trans (offS_le h) hszb
 have hsu:∀k (h:k<m.length),offS m (k+1)=offS m k+12*m[k].2:=fun k h=>offS_succ h
 have HLE:=Lib.hid hle
 have HSU:=Lib.hid hsu
 have h00:offS m 0=16+12*m.length:=by simp[offS]
 have H00:=Lib.hid h00
 have hii:(i:Int)≤8:=by omega
 have hil:¬(l.length:Int)≤(i:Int):=by omega
 have hil2:(i:Int)≤(l.length:Int):=by omega
 have hiN:i≤l.length:=by omega
 have hl8:(l.length:Int)≤8:=by omega
 have HC:=Lib.hid (And.intro hi hml)
 obtain ⟨ad,hAb, -, -⟩:=hin _ HR.out 0 (by omega)
 subst hAb
 have hci:(i:Int)≤(c:Int):=by omega
 have hci2:i≤c:=by omega
 clear hck hin hf hszb hle hsu h00 hM hi hcap hll hnm hl hml
 go_enter Tryz.func64,Tryz.ntmps64
 go_upto_region 1 with (fail)
 rw[←HV.out]
 clear HV
 go_wp2_with (go_at_call 67;refine (HCK.out _ HR.out).mono ?_;rintro e w1 ⟨rfl,g1⟩;have d0:=(Below.cell g1 (p:=⟨w.heap.size,0,none⟩) hz).trans c0;have d1:=(Below.cell g1 (p:=⟨w.heap.size,1,none⟩) hz).trans c1;have d2:=(Below.cell g1 (p:=⟨w.heap.size,2,none⟩) hz).trans c2;have hz1:=Nat.lt_of_lt_of_le hz g1.size;have HG1:=Lib.hid (HG.out.trans g1);have HR1:=Lib.hid (HR.out.gr g1);clear c0 c1 c2 hz g1 HG HR)
 go_loopw [32,5] (fun j n wr=>∃k:Nat,k≤i∧j= .int .i64 k∧n= .int .i64 (offS m k:Nat)∧Gr w1 wr) (fun j _ _=>i-(intOf j).toNat)
 case atStart=>exact ⟨0,Nat.zero_le _,rfl,by rw[H00.out,HC.out.2];go_num,Gr.refl _⟩
 case round=>
  obtain ⟨k,hk,rfl,rfl,hgr⟩:=hrel
  by_cases hlt:k<i
  ·
   have hlt':(k:Int)<(i:Int):=by omega
   obtain ⟨b2,hb2,hb,d1,d0⟩:=HIN.out _ (HR1.out.gr hgr) k (by have:=HC.out;omega)
   injection hb2 with hb2
   subst hb2
   have hs:=HSU.out k (by have:=HC.out;omega)
   have hb1:=hbd.out k (by have:=HC.out;omega)
   have hb3:=HLE.out (k+1) (by have:=HC.out;omega)
   have HS:=Lib.hid hs
   have Hgr:=Lib.hid hgr
   generalize (m[k]'(by have:=HC.out;omega)).1=x1 at *
   generalize (m[k]'(by have:=HC.out;omega)).2=x2 at *
   obtain ⟨N,hN⟩:∃N,N=offS m k:=⟨_,rfl⟩
   rw[←hN] at HS ⊢
   have hNi:(N:Int)+12*(x2:Int)≤1048576:=by have:=HS.out;omega
   have hx2:(x2:Int)≤16777216:=by omega
   clear hs hb1 hb3 hgr hN
   go_wp2
   go_roundw
   case rel=>exact ⟨k+1,by omega,by go_num,by rw[HS.out];go_num,gq⟩
   case measure=>simp[intOf];omega
  ·
   have hkk:k=i:=by omega
   subst hkk
   have HK:=Lib.hid hgr
   clear hgr
   go_wp2
   go_ret
   exact ⟨rfl,HG1.out.trans HK.out⟩
section
open Go Go.RowKit Go.ChangeMaps Go.WideShapes Go.MapKept Go.Maps Go.ChangeShapes
section
variable {P:Program} {w:World} {t kt e:TypeId}
theorem key_str (hk:P.underlying kt=some .string) (s:ByteArray) (hs:s.size≤maxLen):∃kl,keyOf P kt (.string s)=some kl:=by
 simp[keyOf,mapKey,hk,hs]
theorem look_none (ht:P.underlying t=some (.map kt e)) (K:Maps.Keyed P kt) {s:ByteArray} {kl:Lit} (hkey:keyOf P kt (.string s)=some kl) {z:Value} (hz:(zeroValue e).run P w= .ok z w) {b clk:Nat} (hb:w.heap[b]?=some (.map #[] clk)) (c:Bool) :
  (Instr.lookup t (.map (some b)) (.string s) c).run P w= .ok (if c then .tuple #[z, .bool false] else z) w:=by
 rcases K.find w hkey [] (fun x hx=>absurd hx (List.not_mem_nil)) with ⟨h1,h2⟩|⟨j,e0,h1,h2,h3⟩
 ·
  simp[Instr.lookup,run_underlying ht,MapKept.run_getObj_map hb,K.check w _ hkey,h1,hz,Result.andThen]
 ·
  simp at h2
theorem look_one (ht:P.underlying t=some (.map kt e)) (K:Maps.Keyed P kt) {s:ByteArray} {kl:Lit} (hkey:keyOf P kt (.string s)=some kl) {v:Value} {b clk n:Nat} (hb:w.heap[b]?=some (.map #[⟨.string s,v,n⟩] clk)) (c:Bool) :
  (Instr.lookup t (.map (some b)) (.string s) c).run P w= .ok (if c then .tuple #[v, .bool true] else v) w:=by
 rcases K.find w hkey [⟨.string s,v,n⟩] (fun x hx=>by rw[List.mem_singleton] at hx;subst hx;exact ⟨kl,hkey⟩) with ⟨h1,h2⟩|⟨j,e0,h1,h2,h3⟩
 ·
  exact absurd rfl (h2 _ (List.mem_singleton.2 rfl))
 ·
  have:e0=⟨.string s,v,n⟩:=by
   cases j with
   | zero=>simpa using h2.symm
   | succ j=>simp at h2
  subst this
  simp[Instr.lookup,run_underlying ht,MapKept.run_getObj_map hb,K.check w _ hkey,h1,Result.andThen]
theorem upd_none (ht:P.underlying t=some (.map kt e)) (K:Maps.Keyed P kt) {s:ByteArray} {kl:Lit} (hkey:keyOf P kt (.string s)=some kl) {b clk:Nat} (hb:w.heap[b]?=some (.map #[] clk)) (v:Value) :
  (Instr.mapUpdate t (.map (some b)) (.string s) v).run P w= .ok () (setBlock w b (.map #[⟨.string s,v,clk⟩] (clk+1))):=by
 rcases K.find w hkey [] (fun x hx=>absurd hx (List.not_mem_nil)) with ⟨h1,h2⟩|⟨j,e0,h1,h2,h3⟩
 ·
  simp[Instr.mapUpdate,run_underlying ht,MapKept.run_getObj_map hb,K.check w _ hkey,h1,Result.andThen,setObj,Sem.run,hb,setBlock]
 ·
  simp at h2
theorem upd_one (ht:P.underlying t=some (.map kt e)) (K:Maps.Keyed P kt) {s:ByteArray} {kl:Lit} (hkey:keyOf P kt (.string s)=some kl) {u:Value} {b clk n:Nat} (hb:w.heap[b]?=some (.map #[⟨.string s,u,n⟩] clk)) (v:Value) :
  (Instr.mapUpdate t (.map (some b)) (.string s) v).run P w= .ok () (setBlock w b (.map #[⟨.string s,v,n⟩] clk)):=by
 rcases K.find w hkey [⟨.string s,u,n⟩] (fun x hx=>by rw[List.mem_singleton] at hx;subst hx;exact ⟨kl,hkey⟩) with ⟨h1,h2⟩|⟨j,e0,h1,h2,h3⟩
 ·
  exact absurd rfl (h2 _ (List.mem_singleton.2 rfl))
 ·
  have hj:j=0:=by
   cases j with
   | zero=>rfl
   | succ j=>simp at h2
  subst hj
  have he:e0=⟨.string s,u,n⟩:=by simpa using h2.symm
  subst he
  have hst:=K.stays w hkey
  simp[Instr.mapUpdate,run_underlying ht,MapKept.run_getObj_map hb,K.check w _ hkey,h1,hst,Result.andThen,setObj,Sem.run,hb,setBlock]
theorem next_none (ty:TypeId) {r bm c0 clk:Nat} {seen:Array Nat} (hr:w.heap[r]?=some (.mapIter (some bm) c0 seen c0)) (hb:w.heap[bm]?=some (.map #[] clk)):(Instr.next (.pointer (some ⟨r,0,none⟩)) false ty).run P w= .ok (.tuple #[.bool false]) w:=by
 rcases run_next_at (P:=P) w ty r bm c0 c0 seen #[] clk hr hb (fun x hx=>by simp at hx) (Nat.le_refl _) with ⟨-,h⟩|⟨x,hx, -⟩
 ·
  exact h
 ·
  simp[leftOf] at hx
end
end
end Go.Proofs.YtoncapkmaeghfaaGreat
