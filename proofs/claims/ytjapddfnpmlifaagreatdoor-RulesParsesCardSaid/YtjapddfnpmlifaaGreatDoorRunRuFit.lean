import Derived.Test.YtjapddfnpmlifaaGreatDoorRunRuIntv
import Derived.Test.YtjapddfnpmlifaaGreatDoorRunFxBase
import Derived.Deep.Light
import Derived.Deep.Cut
import Derived.Deep.CutRange
set_option linter.all false
set_option maxRecDepth 1000000
set_option maxHeartbeats 12800000
namespace Go.Proofs.YtjapddfnpmlifaaGreatDoor
open Go.RowKit
theorem oneOk_iff {a:Nat×Nat}:oneOk a=true↔1<=a.1/\a.1<=16777216/\1<=a.2/\a.2<=16777216:=by
 simp only[oneOk,Bool.and_eq_true,Nat.ble_eq];constructor
 ·rintro ⟨⟨⟨a,b⟩,c⟩,d⟩;exact ⟨a,b,c,d⟩
 ·rintro ⟨a,b,c,d⟩;exact ⟨⟨⟨a,b⟩,c⟩,d⟩
theorem fits_eq (x1 x2 y1 y2:Nat):fitsS (x1,x2) (y1,y2)=(decide ((x1:Int)<y1)&&(((y1:Int)%x1)==0)&&decide ((x1:Int)*x2<(y1:Int)*y2)&&decide ((y1:Int)/x1<=x2)):=by
 unfold fitsS;simp only;rw[Bool.eq_iff_iff];simp only[Bool.and_eq_true,Nat.blt_eq,Nat.ble_eq,decide_eq_true_eq,beq_iff_eq];rw[<-Int.natCast_mul,<-Int.natCast_mul,<-Int.natCast_ediv,<-Int.natCast_emod];omega
theorem fits_int (x1 x2 y1 y2:Int) (h1:1<=x1) (h2:x1<=16777216) (h3:1<=y1) (h4:y1<=16777216):IntKind.i64.wrap (Int.tdiv y1 x1)=y1/x1/\Int.tmod y1 x1=y1%x1/\wrap64 (y1/x1)=y1/x1/\¬x1=0:=by
 rw[Int.tdiv_eq_ediv_of_nonneg (by omega),Int.tmod_eq_emod_of_nonneg (by omega)];have a:=Int.ediv_nonneg (a:=y1) (b:=x1) (by omega) (by omega);have b:=Int.ediv_le_self (a:=y1) x1 (by omega);have c:=Int.emod_nonneg y1 (b:=x1) (by omega);have d:=Int.emod_lt_of_pos y1 (b:=x1) (by omega);exact ⟨IntWalk.i64_in (y1/x1) (by omega),rfl,IntWalk.wrap64_in (y1/x1) (by omega),by omega⟩
theorem prod_small (a b:Int) (h1:1<=a) (h2:a<=16777216) (h3:1<=b) (h4:b<=16777216):IntKind.i64.wrap (a*b)=a*b:=by
 have h5:0<=a*b:=Int.mul_nonneg (by omega) (by omega);have h6:a*b<=16777216*16777216:=Int.mul_le_mul h2 h4 (by omega) (by omega);exact IntWalk.i64_in (a*b) (by omega)
theorem whead_fits (x y:Nat×Nat) (hx:oneOk x=true) (hy:oneOk y=true) (w:World):Calls Tryz.prog 60 #[.agg #[.int .i64 x.1, .int .i64 x.2], .agg #[.int .i64 y.1, .int .i64 y.2]] w λe w'=>e= .returned (.bool (fitsS x y))/\Gr w w':=by
 obtain ⟨x1,x2⟩:=x;obtain ⟨y1,y2⟩:=y;obtain ⟨hx1,hx2,hx3,hx4⟩:=oneOk_iff.1 hx;obtain ⟨hy1,hy2,hy3,hy4⟩:=oneOk_iff.1 hy;simp only at hx1 hx2 hx3 hx4 hy1 hy2 hy3 hy4 ⊢;obtain ⟨F,hF⟩:∃F,F=fitsS (x1,x2) (y1,y2):=⟨_,rfl⟩
 rw[<-hF];have hFF:=fits_int (x1:Int) x2 y1 y2 (by omega) (by omega) (by omega) (by omega);have hm1:=prod_small (x1:Int) x2 (by omega) (by omega) (by omega) (by omega);have hm2:=prod_small (y1:Int) y2 (by omega) (by omega) (by omega) (by omega);have hfi:fitsS (x1,x2) (y1,y2)=(decide ((x1:Int)<y1)&&(((y1:Int)%x1)==0)&&decide ((x1:Int)*x2<(y1:Int)*y2)&&decide ((y1:Int)/x1<=x2)):=fits_eq _ _ _ _;rw[hfi] at hF;have HF:=Lib.hid hF;obtain ⟨X1,hX1⟩:∃X:Int,X=x1:=⟨_,rfl⟩
 obtain ⟨X2,hX2⟩:∃X:Int,X=x2:=⟨_,rfl⟩
 obtain ⟨Y1,hY1⟩:∃X:Int,X=y1:=⟨_,rfl⟩
 obtain ⟨Y2,hY2⟩:∃X:Int,X=y2:=⟨_,rfl⟩
 have a1:1<=X1/\X1<=16777216:=by omega
 have a2:1<=X2/\X2<=16777216:=by omega
 have a3:1<=Y1/\Y1<=16777216:=by omega
 have a4:1<=Y2/\Y2<=16777216:=by omega
 simp only[<-hX1,<-hX2,<-hY1,<-hY2] at HF hFF hm1 hm2 ⊢;clear hX1 hX2 hY1 hY2 hF hfi hx hy hx1 hx2 hx3 hx4 hy1 hy2 hy3 hy4;obtain ⟨V,hV⟩:∃V,V=(w.alloc (.cells #[.int .i64 X1, .int .i64 X2] 34)).alloc (.cells #[.int .i64 Y1, .int .i64 Y2] 34):=⟨_,rfl⟩
 have gV:Gr w V:=by rw[hV];exact Gr.alloc (Gr.alloc (Gr.refl w) _) _
 have hzx:w.heap.size<V.heap.size:=by rw[hV];simp;omega
 have hzy:w.heap.size+1<V.heap.size:=by rw[hV];simp
 have cx0:V.cell? ⟨w.heap.size,0,none⟩=some (.int .i64 X1):=by rw[hV];go_simp
 have cx1:V.cell? ⟨w.heap.size,1,none⟩=some (.int .i64 X2):=by rw[hV];go_simp
 have cy0:V.cell? ⟨w.heap.size+1,0,none⟩=some (.int .i64 Y1):=by rw[hV];go_simp
 have cy1:V.cell? ⟨w.heap.size+1,1,none⟩=some (.int .i64 Y2):=by rw[hV];go_simp
 have HV:=Lib.hid hV;have HG:=Lib.hid gV;clear hV gV;obtain ⟨q1,q2,q3,q4⟩:=hFF;by_cases h1:X1<Y1
 ·have e1:decide (X1<Y1)=true:=decide_eq_true h1;cases h2:(Y1%X1==0)
  ·clear q1 q3 hm1 hm2;go_enter Tryz.func60,Tryz.ntmps60;go_upto_region 1 with (fail)
   rw[<-HV.out];clear HV;refine region_R (by kernel_rfl) (by kernel_rfl) ?_;refine rv ?_;refine rv ?_ (h:=λW hW=>by have g:=bc hW hzy cy0;go_light;go_simp<;>rfl);refine rv ?_;refine rv ?_ (h:=λW hW=>by have g:=bc hW hzx cx0;go_light;go_simp<;>rfl);(iterate 3 refine rv ?_);refine rv ?_ (h:=λW hW=>by have g:=bc hW hzy cy0;go_light;go_simp<;>rfl);refine rv ?_;refine rv ?_ (h:=λW hW=>by have g:=bc hW hzx cx0;go_light;go_simp<;>rfl);(iterate 4 refine rv ?_);(iterate 11 refine rs ?_);(iterate 2 refine rv ?_);(iterate 8 refine rs ?_);(iterate 2 refine rv ?_);refine r_nil ?_;intro w8 hw8;go_wp2;go_ret;exact ⟨ret_b (by rw[HF.out,e1,h2];rfl),HG.out.trans hw8⟩
  ·by_cases h3:X1*X2<Y1*Y2
   ·have e3:decide (X1*X2<Y1*Y2)=true:=decide_eq_true h3;by_cases h4:Y1/X1<=X2
    ·have e4:decide (Y1/X1<=X2)=true:=decide_eq_true h4;go_enter Tryz.func60,Tryz.ntmps60;go_upto_region 1 with (fail)
     rw[<-HV.out];clear HV;refine region_R (by kernel_rfl) (by kernel_rfl) ?_;refine rv ?_;refine rv ?_ (h:=λW hW=>by have g:=bc hW hzy cy0;go_light;go_simp<;>rfl);refine rv ?_;refine rv ?_ (h:=λW hW=>by have g:=bc hW hzx cx0;go_light;go_simp<;>rfl);(iterate 3 refine rv ?_);refine rv ?_ (h:=λW hW=>by have g:=bc hW hzy cy0;go_light;go_simp<;>rfl);refine rv ?_;refine rv ?_ (h:=λW hW=>by have g:=bc hW hzx cx0;go_light;go_simp<;>rfl);(iterate 5 refine rv ?_);refine rv ?_ (h:=λW hW=>by have g:=bc hW hzy cy0;go_light;go_simp<;>rfl);refine rv ?_;refine rv ?_ (h:=λW hW=>by have g:=bc hW hzy cy1;go_light;go_simp<;>rfl);(iterate 2 refine rv ?_);refine rv ?_ (h:=λW hW=>by have g:=bc hW hzx cx0;go_light;go_simp<;>rfl);refine rv ?_;refine rv ?_ (h:=λW hW=>by have g:=bc hW hzx cx1;go_light;go_simp<;>rfl);(iterate 5 refine rv ?_);refine rv ?_ (h:=λW hW=>by have g:=bc hW hzx cx1;go_light;go_simp<;>rfl);refine rv ?_;refine rv ?_ (h:=λW hW=>by have g:=bc hW hzy cy0;go_light;go_simp<;>rfl);refine rv ?_;refine rv ?_ (h:=λW hW=>by have g:=bc hW hzx cx0;go_light;go_simp<;>rfl);(iterate 4 refine rv ?_);refine r_nil ?_;intro w8 hw8;go_wp2;go_ret;exact ⟨ret_b (by rw[HF.out,e1,h2,e3,e4];rfl),HG.out.trans hw8⟩
    ·have e4:decide (Y1/X1<=X2)=false:=decide_eq_false h4;go_enter Tryz.func60,Tryz.ntmps60;go_upto_region 1 with (fail)
     rw[<-HV.out];clear HV;refine region_R (by kernel_rfl) (by kernel_rfl) ?_;refine rv ?_;refine rv ?_ (h:=λW hW=>by have g:=bc hW hzy cy0;go_light;go_simp<;>rfl);refine rv ?_;refine rv ?_ (h:=λW hW=>by have g:=bc hW hzx cx0;go_light;go_simp<;>rfl);(iterate 3 refine rv ?_);refine rv ?_ (h:=λW hW=>by have g:=bc hW hzy cy0;go_light;go_simp<;>rfl);refine rv ?_;refine rv ?_ (h:=λW hW=>by have g:=bc hW hzx cx0;go_light;go_simp<;>rfl);(iterate 5 refine rv ?_);refine rv ?_ (h:=λW hW=>by have g:=bc hW hzy cy0;go_light;go_simp<;>rfl);refine rv ?_;refine rv ?_ (h:=λW hW=>by have g:=bc hW hzy cy1;go_light;go_simp<;>rfl);(iterate 2 refine rv ?_);refine rv ?_ (h:=λW hW=>by have g:=bc hW hzx cx0;go_light;go_simp<;>rfl);refine rv ?_;refine rv ?_ (h:=λW hW=>by have g:=bc hW hzx cx1;go_light;go_simp<;>rfl);(iterate 5 refine rv ?_);refine rv ?_ (h:=λW hW=>by have g:=bc hW hzx cx1;go_light;go_simp<;>rfl);refine rv ?_;refine rv ?_ (h:=λW hW=>by have g:=bc hW hzy cy0;go_light;go_simp<;>rfl);refine rv ?_;refine rv ?_ (h:=λW hW=>by have g:=bc hW hzx cx0;go_light;go_simp<;>rfl);(iterate 4 refine rv ?_);refine r_nil ?_;intro w8 hw8;go_wp2;go_ret;exact ⟨ret_b (by rw[HF.out,e1,h2,e3,e4];rfl),HG.out.trans hw8⟩
   ·have e3:decide (X1*X2<Y1*Y2)=false:=decide_eq_false h3;clear q1 q3;go_enter Tryz.func60,Tryz.ntmps60;go_upto_region 1 with (fail)
    rw[<-HV.out];clear HV;refine region_R (by kernel_rfl) (by kernel_rfl) ?_;refine rv ?_;refine rv ?_ (h:=λW hW=>by have g:=bc hW hzy cy0;go_light;go_simp<;>rfl);refine rv ?_;refine rv ?_ (h:=λW hW=>by have g:=bc hW hzx cx0;go_light;go_simp<;>rfl);(iterate 3 refine rv ?_);refine rv ?_ (h:=λW hW=>by have g:=bc hW hzy cy0;go_light;go_simp<;>rfl);refine rv ?_;refine rv ?_ (h:=λW hW=>by have g:=bc hW hzx cx0;go_light;go_simp<;>rfl);(iterate 5 refine rv ?_);refine rv ?_ (h:=λW hW=>by have g:=bc hW hzy cy0;go_light;go_simp<;>rfl);refine rv ?_;refine rv ?_ (h:=λW hW=>by have g:=bc hW hzy cy1;go_light;go_simp<;>rfl);(iterate 2 refine rv ?_);refine rv ?_ (h:=λW hW=>by have g:=bc hW hzx cx0;go_light;go_simp<;>rfl);refine rv ?_;refine rv ?_ (h:=λW hW=>by have g:=bc hW hzx cx1;go_light;go_simp<;>rfl);(iterate 4 refine rv ?_);(iterate 8 refine rs ?_);(iterate 2 refine rv ?_);refine r_nil ?_;intro w8 hw8;go_wp2;go_ret;exact ⟨ret_b (by rw[HF.out,e1,h2,e3];rfl),HG.out.trans hw8⟩
 ·have e1:decide (X1<Y1)=false:=decide_eq_false h1;clear q1 q2 q3 hm1 hm2;go_enter Tryz.func60,Tryz.ntmps60;go_upto_region 1 with (fail)
  rw[<-HV.out];clear HV;refine region_R (by kernel_rfl) (by kernel_rfl) ?_;refine rv ?_;refine rv ?_ (h:=λW hW=>by have g:=bc hW hzy cy0;go_light;go_simp<;>rfl);refine rv ?_;refine rv ?_ (h:=λW hW=>by have g:=bc hW hzx cx0;go_light;go_simp<;>rfl);(iterate 2 refine rv ?_);(iterate 6 refine rs ?_);(iterate 2 refine rv ?_);(iterate 11 refine rs ?_);(iterate 2 refine rv ?_);(iterate 8 refine rs ?_);(iterate 2 refine rv ?_);refine r_nil ?_;intro w8 hw8;go_wp2;go_ret;exact ⟨ret_b (by rw[HF.out,e1];rfl),HG.out.trans hw8⟩
theorem ref_side (x y:Nat×Nat) (hx:oneOk x=true) (hy:oneOk y=true) (w:World):Calls Tryz.prog 100 #[.agg #[.int .i64 x.1, .int .i64 x.2], .agg #[.int .i64 y.1, .int .i64 y.2]] w λe w'=>e= .returned (.bool (fitsS x y))/\Gr w w':=by
 obtain ⟨x1,x2⟩:=x;obtain ⟨y1,y2⟩:=y;obtain ⟨hx1,hx2,hx3,hx4⟩:=oneOk_iff.1 hx;obtain ⟨hy1,hy2,hy3,hy4⟩:=oneOk_iff.1 hy;simp only at hx1 hx2 hx3 hx4 hy1 hy2 hy3 hy4 ⊢;obtain ⟨F,hF⟩:∃F,F=fitsS (x1,x2) (y1,y2):=⟨_,rfl⟩
 rw[<-hF];have hFF:=fits_int (x1:Int) x2 y1 y2 (by omega) (by omega) (by omega) (by omega);have hm1:=prod_small (x1:Int) x2 (by omega) (by omega) (by omega) (by omega);have hm2:=prod_small (y1:Int) y2 (by omega) (by omega) (by omega) (by omega);have hfi:fitsS (x1,x2) (y1,y2)=(decide ((x1:Int)<y1)&&(((y1:Int)%x1)==0)&&decide ((x1:Int)*x2<(y1:Int)*y2)&&decide ((y1:Int)/x1<=x2)):=fits_eq _ _ _ _;rw[hfi] at hF;have HF:=Lib.hid hF;obtain ⟨X1,hX1⟩:∃X:Int,X=x1:=⟨_,rfl⟩
 obtain ⟨X2,hX2⟩:∃X:Int,X=x2:=⟨_,rfl⟩
 obtain ⟨Y1,hY1⟩:∃X:Int,X=y1:=⟨_,rfl⟩
 obtain ⟨Y2,hY2⟩:∃X:Int,X=y2:=⟨_,rfl⟩
 have a1:1<=X1/\X1<=16777216:=by omega
 have a2:1<=X2/\X2<=16777216:=by omega
 have a3:1<=Y1/\Y1<=16777216:=by omega
 have a4:1<=Y2/\Y2<=16777216:=by omega
 simp only[<-hX1,<-hX2,<-hY1,<-hY2] at HF hFF hm1 hm2 ⊢;clear hX1 hX2 hY1 hY2 hF hfi hx hy hx1 hx2 hx3 hx4 hy1 hy2 hy3 hy4;obtain ⟨V,hV⟩:∃V,V=(w.alloc (.cells #[.int .i64 X1, .int .i64 X2] 34)).alloc (.cells #[.int .i64 Y1, .int .i64 Y2] 34):=⟨_,rfl⟩
 have gV:Gr w V:=by rw[hV];exact Gr.alloc (Gr.alloc (Gr.refl w) _) _
 have hzx:w.heap.size<V.heap.size:=by rw[hV];simp;omega
 have hzy:w.heap.size+1<V.heap.size:=by rw[hV];simp
 have cx0:V.cell? ⟨w.heap.size,0,none⟩=some (.int .i64 X1):=by rw[hV];go_simp
 have cx1:V.cell? ⟨w.heap.size,1,none⟩=some (.int .i64 X2):=by rw[hV];go_simp
 have cy0:V.cell? ⟨w.heap.size+1,0,none⟩=some (.int .i64 Y1):=by rw[hV];go_simp
 have cy1:V.cell? ⟨w.heap.size+1,1,none⟩=some (.int .i64 Y2):=by rw[hV];go_simp
 have HV:=Lib.hid hV;have HG:=Lib.hid gV;clear hV gV;obtain ⟨q1,q2,q3,q4⟩:=hFF;by_cases h1:X1<Y1
 ·have e1:decide (X1<Y1)=true:=decide_eq_true h1;cases h2:(Y1%X1==0)
  ·clear q1 q3 hm1 hm2;go_enter Tryz.func100,Tryz.ntmps100;go_upto_region 1 with (fail)
   rw[<-HV.out];clear HV;refine region_R (by kernel_rfl) (by kernel_rfl) ?_;refine rv ?_;refine rv ?_ (h:=λW hW=>by have g:=bc hW hzy cy0;go_light;go_simp<;>rfl);refine rv ?_;refine rv ?_ (h:=λW hW=>by have g:=bc hW hzx cx0;go_light;go_simp<;>rfl);(iterate 3 refine rv ?_);refine rv ?_ (h:=λW hW=>by have g:=bc hW hzy cy0;go_light;go_simp<;>rfl);refine rv ?_;refine rv ?_ (h:=λW hW=>by have g:=bc hW hzx cx0;go_light;go_simp<;>rfl);(iterate 4 refine rv ?_);(iterate 11 refine rs ?_);(iterate 2 refine rv ?_);(iterate 8 refine rs ?_);(iterate 2 refine rv ?_);refine r_nil ?_;intro w8 hw8;go_wp2;go_ret;exact ⟨ret_b (by rw[HF.out,e1,h2];rfl),HG.out.trans hw8⟩
  ·by_cases h3:X1*X2<Y1*Y2
   ·have e3:decide (X1*X2<Y1*Y2)=true:=decide_eq_true h3;by_cases h4:Y1/X1<=X2
    ·have e4:decide (Y1/X1<=X2)=true:=decide_eq_true h4;go_enter Tryz.func100,Tryz.ntmps100;go_upto_region 1 with (fail)
     rw[<-HV.out];clear HV;refine region_R (by kernel_rfl) (by kernel_rfl) ?_;refine rv ?_;refine rv ?_ (h:=λW hW=>by have g:=bc hW hzy cy0;go_light;go_simp<;>rfl);refine rv ?_;refine rv ?_ (h:=λW hW=>by have g:=bc hW hzx cx0;go_light;go_simp<;>rfl);(iterate 3 refine rv ?_);refine rv ?_ (h:=λW hW=>by have g:=bc hW hzy cy0;go_light;go_simp<;>rfl);refine rv ?_;refine rv ?_ (h:=λW hW=>by have g:=bc hW hzx cx0;go_light;go_simp<;>rfl);(iterate 5 refine rv ?_);refine rv ?_ (h:=λW hW=>by have g:=bc hW hzy cy0;go_light;go_simp<;>rfl);refine rv ?_;refine rv ?_ (h:=λW hW=>by have g:=bc hW hzy cy1;go_light;go_simp<;>rfl);(iterate 2 refine rv ?_);refine rv ?_ (h:=λW hW=>by have g:=bc hW hzx cx0;go_light;go_simp<;>rfl);refine rv ?_;refine rv ?_ (h:=λW hW=>by have g:=bc hW hzx cx1;go_light;go_simp<;>rfl);(iterate 5 refine rv ?_);refine rv ?_ (h:=λW hW=>by have g:=bc hW hzx cx1;go_light;go_simp<;>rfl);refine rv ?_;refine rv ?_ (h:=λW hW=>by have g:=bc hW hzy cy0;go_light;go_simp<;>rfl);refine rv ?_;refine rv ?_ (h:=λW hW=>by have g:=bc hW hzx cx0;go_light;go_simp<;>rfl);(iterate 4 refine rv ?_);refine r_nil ?_;intro w8 hw8;go_wp2;go_ret;exact ⟨ret_b (by rw[HF.out,e1,h2,e3,e4];rfl),HG.out.trans hw8⟩
    ·have e4:decide (Y1/X1<=X2)=false:=decide_eq_false h4;go_enter Tryz.func100,Tryz.ntmps100;go_upto_region 1 with (fail)
     rw[<-HV.out];clear HV;refine region_R (by kernel_rfl) (by kernel_rfl) ?_;refine rv ?_;refine rv ?_ (h:=λW hW=>by have g:=bc hW hzy cy0;go_light;go_simp<;>rfl);refine rv ?_;refine rv ?_ (h:=λW hW=>by have g:=bc hW hzx cx0;go_light;go_simp<;>rfl);(iterate 3 refine rv ?_);refine rv ?_ (h:=λW hW=>by have g:=bc hW hzy cy0;go_light;go_simp<;>rfl);refine rv ?_;refine rv ?_ (h:=λW hW=>by have g:=bc hW hzx cx0;go_light;go_simp<;>rfl);(iterate 5 refine rv ?_);refine rv ?_ (h:=λW hW=>by have g:=bc hW hzy cy0;go_light;go_simp<;>rfl);refine rv ?_;refine rv ?_ (h:=λW hW=>by have g:=bc hW hzy cy1;go_light;go_simp<;>rfl);(iterate 2 refine rv ?_);refine rv ?_ (h:=λW hW=>by have g:=bc hW hzx cx0;go_light;go_simp<;>rfl);refine rv ?_;refine rv ?_ (h:=λW hW=>by have g:=bc hW hzx cx1;go_light;go_simp<;>rfl);(iterate 5 refine rv ?_);refine rv ?_ (h:=λW hW=>by have g:=bc hW hzx cx1;go_light;go_simp<;>rfl);refine rv ?_;refine rv ?_ (h:=λW hW=>by have g:=bc hW hzy cy0;go_light;go_simp<;>rfl);refine rv ?_;refine rv ?_ (h:=λW hW=>by have g:=bc hW hzx cx0;go_light;go_simp<;>rfl);(iterate 4 refine rv ?_);refine r_nil ?_;intro w8 hw8;go_wp2;go_ret;exact ⟨ret_b (by rw[HF.out,e1,h2,e3,e4];rfl),HG.out.trans hw8⟩
   ·have e3:decide (X1*X2<Y1*Y2)=false:=decide_eq_false h3;clear q1 q3;go_enter Tryz.func100,Tryz.ntmps100;go_upto_region 1 with (fail)
    rw[<-HV.out];clear HV;refine region_R (by kernel_rfl) (by kernel_rfl) ?_;refine rv ?_;refine rv ?_ (h:=λW hW=>by have g:=bc hW hzy cy0;go_light;go_simp<;>rfl);refine rv ?_;refine rv ?_ (h:=λW hW=>by have g:=bc hW hzx cx0;go_light;go_simp<;>rfl);(iterate 3 refine rv ?_);refine rv ?_ (h:=λW hW=>by have g:=bc hW hzy cy0;go_light;go_simp<;>rfl);refine rv ?_;refine rv ?_ (h:=λW hW=>by have g:=bc hW hzx cx0;go_light;go_simp<;>rfl);(iterate 5 refine rv ?_);refine rv ?_ (h:=λW hW=>by have g:=bc hW hzy cy0;go_light;go_simp<;>rfl);refine rv ?_;refine rv ?_ (h:=λW hW=>by have g:=bc hW hzy cy1;go_light;go_simp<;>rfl);(iterate 2 refine rv ?_);refine rv ?_ (h:=λW hW=>by have g:=bc hW hzx cx0;go_light;go_simp<;>rfl);refine rv ?_;refine rv ?_ (h:=λW hW=>by have g:=bc hW hzx cx1;go_light;go_simp<;>rfl);(iterate 4 refine rv ?_);(iterate 8 refine rs ?_);(iterate 2 refine rv ?_);refine r_nil ?_;intro w8 hw8;go_wp2;go_ret;exact ⟨ret_b (by rw[HF.out,e1,h2,e3];rfl),HG.out.trans hw8⟩
 ·have e1:decide (X1<Y1)=false:=decide_eq_false h1;clear q1 q2 q3 hm1 hm2;go_enter Tryz.func100,Tryz.ntmps100;go_upto_region 1 with (fail)
  rw[<-HV.out];clear HV;refine region_R (by kernel_rfl) (by kernel_rfl) ?_;refine rv ?_;refine rv ?_ (h:=λW hW=>by have g:=bc hW hzy cy0;go_light;go_simp<;>rfl);refine rv ?_;refine rv ?_ (h:=λW hW=>by have g:=bc hW hzx cx0;go_light;go_simp<;>rfl);(iterate 2 refine rv ?_);(iterate 6 refine rs ?_);(iterate 2 refine rv ?_);(iterate 11 refine rs ?_);(iterate 2 refine rv ?_);(iterate 8 refine rs ?_);(iterate 2 refine rv ?_);refine r_nil ?_;intro w8 hw8;go_wp2;go_ret;exact ⟨ret_b (by rw[HF.out,e1];rfl),HG.out.trans hw8⟩
def Ra (w:World) (A:Option Addr) (l:List (Nat×Nat)):Prop:=
 0<l.length->∃b,A=some ⟨b,0,none⟩/\b<w.heap.size/\∀k (h:k<l.length),w.cell? ⟨b,k*2,none⟩=some (.int .i64 (l[k].1:Nat))/\w.cell? ⟨b,k*2+1,none⟩=some (.int .i64 (l[k].2:Nat))
theorem Ra.gr {w w':World} {A:Option Addr} {l:List (Nat×Nat)} (h:Ra w A l) (g:Gr w w'):Ra w' A l:=λh0=>by
 obtain ⟨b,e,hb,hc⟩:=h h0;exact ⟨b,e,Nat.lt_of_lt_of_le hb g.size,λk hk=>⟨(bc g hb (hc k hk).1),(bc g hb (hc k hk).2)⟩⟩
theorem Ra.nil (w:World) (A:Option Addr):Ra w A []:=λh=>absurd h (Nat.lt_irrefl _)
theorem sizeS_take {l:List (Nat×Nat)} {k:Nat} (h:k<l.length):sizeS (l.take (k+1))=sizeS (l.take k)+(12+12*l[k].2):=by
 unfold sizeS;rw[List.take_succ_eq_append_getElem h,List.map_append,List.sum_append];simp only[List.map_cons,List.map_nil,List.sum_cons,List.sum_nil];omega
theorem sizeS_mono (l:List (Nat×Nat)) (k:Nat):sizeS (l.take k)<=sizeS l:=by
 unfold sizeS
 conv=>rhs;rw[<-List.take_append_drop k l,List.map_append,List.sum_append]
 omega
theorem sizeS_bound (l:List (Nat×Nat)) (h:∀a∈l,a.2<=16777216):sizeS l<=16+l.length*201326604:=by
 unfold sizeS;induction l with
 | nil=>simp
 | cons a l ih=>
  have h1:=ih (λx hx=>h x (List.mem_cons_of_mem _ hx));have h2:=h a (List.mem_cons_self ..);simp only[List.map_cons,List.sum_cons,List.length_cons];omega
theorem whead_size (A:Option Addr) (c:Nat) (l:List (Nat×Nat)) (hl:l.length<=8) (h2:∀a∈l,a.2<=16777216) (w:World) (hr:Ra w A l):Calls Tryz.prog 61 #[.agg #[.int .i64 1, .int .i64 0, .slice A l.length c]] w λe w'=>e= .returned (.int .i64 (sizeS l:Nat))/\Gr w w':=by
 have hli:(l.length:Int)<=8:=by omega
 obtain ⟨V,hV⟩:∃V,V=w.alloc (.cells #[.int .i64 1, .int .i64 0, .slice A l.length c] 29):=⟨_,rfl⟩
 have gV:Gr w V:=by rw[hV];exact Gr.alloc (Gr.refl w) _
 have hz:w.heap.size<V.heap.size:=by rw[hV];simp
 have c2:V.cell? ⟨w.heap.size,2,none⟩=some (.slice A l.length c):=by rw[hV];go_simp
 have HV:=Lib.hid hV;have HG:=Lib.hid gV;have HR:=Lib.hid (hr.gr gV);have HB:=Lib.hid (And.intro hl h2);clear hV gV hr hl h2;go_enter Tryz.func61,Tryz.ntmps61;go_upto_region 1 with (fail)
 rw[<-HV.out];clear HV;go_wp2
 go_loopw [9,3] (λi n wr=>∃k:Nat,k<=l.length/\i= .int .i64 k/\n= .int .i64 (sizeS (l.take k):Nat)/\Gr V wr) (λi _ _=>l.length-(intOf i).toNat)
 case atStart=>exact ⟨0,Nat.zero_le _,rfl,rfl,Gr.refl _⟩
 case round=>
  obtain ⟨k,hk,rfl,rfl,hgr⟩:=hrel;by_cases hlt:k<l.length
  ·have hlt':(k:Int)<(l.length:Int):=by omega
   obtain ⟨b,rfl,hb,hc⟩:=(HR.out.gr hgr) (by omega)
   obtain ⟨d0,d1⟩:=hc k hlt;have hs:=sizeS_take hlt;have hb1:=HB.out.2 l[k] (List.getElem_mem hlt);have hb2:=sizeS_bound (l.take (k+1)) (λa ha=>HB.out.2 a (List.mem_of_mem_take ha));rw[List.length_take,Nat.min_eq_left (by omega)] at hb2;have HS:=Lib.hid hs;have Hgr:=Lib.hid hgr;generalize l[k].1=x1 at *;generalize l[k].2=x2 at *;obtain ⟨N,hN⟩:∃N,N=sizeS (l.take k):=⟨_,rfl⟩
   rw[<-hN] at HS ⊢;have hNi:(N:Int)+(12+12*(x2:Int))<=2000000000:=by have:=HS.out;omega
   have hx2:(x2:Int)<=16777216:=by omega
   clear hc hs hb1 hb2 hgr hN;go_wp2;go_roundw;case rel=>exact ⟨k+1,by omega,by go_num,by rw[HS.out];go_num,gq⟩
   case measure=>simp[intOf];omega
  ·have hkk:k=l.length:=by omega
   subst hkk;have HK:=Lib.hid hgr;clear hgr;go_wp2;go_ret;exact ⟨ret_i (by rw[List.take_length]),HG.out.trans HK.out⟩
def stepOk (l:List (Nat×Nat)) (k:Nat):Bool:=oneOk (l.getD k (0,0))&&(k==0||fitsS (l.getD (k-1) (0,0)) (l.getD k (0,0)))
theorem rowOk_iff:∀(a:Nat×Nat) (l:List (Nat×Nat)),rowOk a l=true↔∀k,k<l.length->stepOk (a::l) (k+1)=true
 | a,[]=>by simp[rowOk]
 | a,b::r=>by
  rw[rowOk,Bool.and_eq_true,Bool.and_eq_true,rowOk_iff b r];constructor
  ·rintro ⟨⟨h1,h2⟩,h3⟩ k hk;match k with
   | 0=>simp[stepOk,h1,h2]
   | k+1=>
    have:=h3 k (by simpa using hk);simpa [stepOk] using this
  ·intro h;have h0:=h 0 (by simp);refine ⟨by simpa [stepOk] using h0,λk hk=>?_⟩;have:=h (k+1) (by simpa using hk);simpa [stepOk] using this
def stepsS (l:List (Nat×Nat)):Bool:=match l with|[]=>false|a::r=>oneOk a&&rowOk a r
theorem steps_iff (l:List (Nat×Nat)):stepsS l=true↔l≠[]/\∀k,k<l.length->stepOk l k=true:=by
 match l with
 | []=>simp[stepsS]
 | a::r=>
  rw[stepsS,Bool.and_eq_true,rowOk_iff];constructor
  ·rintro ⟨h1,h2⟩;refine ⟨by simp,λk hk=>?_⟩;match k with
   | 0=>simpa [stepOk] using h1
   | k+1=>exact h2 k (by simpa using hk)
  ·rintro ⟨-,h⟩;refine ⟨?_,λk hk=>h (k+1) (by simpa using hk)⟩;have:=h 0 (by simp);simpa [stepOk] using this
theorem mayS_eq (l:List (Nat×Nat)):mayS l=(Nat.ble l.length 8&&stepsS l&&Nat.ble (sizeS l) 1048576&&Nat.ble ((lastS l).1*(lastS l).2) maxTime):=by
 unfold mayS stepsS;rfl
theorem one_no {x1 x2:Nat} (h:x1<1\/16777216<x1\/x2<1\/16777216<x2):oneOk (x1,x2)=false:=by
 cases e:oneOk (x1,x2)
 ·rfl
 ·have:=oneOk_iff.1 e;simp only at this;omega
theorem mayS_step {l:List (Nat×Nat)} {k:Nat} (hk:k<l.length) (h:stepOk l k=false):mayS l=false:=by
 cases e:mayS l
 ·rfl
 ·rw[mayS_eq] at e;simp only[Bool.and_eq_true] at e;have:=((steps_iff l).1 e.1.1.2).2 k hk;rw[h] at this;cases this
theorem mayS_size {l:List (Nat×Nat)} (h:1048576<sizeS l):mayS l=false:=by
 cases e:mayS l
 ·rfl
 ·rw[mayS_eq] at e;simp only[Bool.and_eq_true,Nat.ble_eq] at e;omega
theorem mayS_len {l:List (Nat×Nat)} (h:l.length=0\/8<l.length):mayS l=false:=by
 cases e:mayS l
 ·rfl
 ·rw[mayS_eq] at e;simp only[Bool.and_eq_true,Nat.ble_eq] at e;have:=((steps_iff l).1 e.1.1.2).1;rcases h with h|h
  ·exact absurd (List.length_eq_zero_iff.1 h) this
  ·omega
theorem mayS_rest {l:List (Nat×Nat)} (h1:1<=l.length) (h8:l.length<=8) (h:∀k,k<l.length->stepOk l k=true) (hs:sizeS l<=1048576):mayS l=Nat.ble ((lastS l).1*(lastS l).2) maxTime:=by
 have:stepsS l=true:=(steps_iff l).2 ⟨λe=>by rw[e] at h1;simp at h1,h⟩;have e1:Nat.ble l.length 8=true:=by rw[Nat.ble_eq];exact h8
 have e2:Nat.ble (sizeS l) 1048576=true:=by rw[Nat.ble_eq];exact hs
 rw[mayS_eq,this,e1,e2];rfl
theorem lastS_at {l:List (Nat×Nat)} (h:1<=l.length):lastS l=l[l.length-1]'(by omega):=by
 unfold lastS;rw[List.getLastD_eq_getLast?,List.getLast?_eq_getElem?,List.getElem?_eq_getElem (by omega)];rfl
theorem stepOk_at {l:List (Nat×Nat)} {k:Nat} (h:k<l.length):stepOk l k=(oneOk l[k]&&(k==0||fitsS (l[k-1]'(by omega)) l[k])):=by
 unfold stepOk;rw[List.getD_eq_getElem?_getD,List.getD_eq_getElem?_getD,List.getElem?_eq_getElem h,List.getElem?_eq_getElem (by omega)];rfl
def acells (l:List (Nat×Nat)):List Value:=l.flatMap λa=>[.int .i64 (a.1:Nat), .int .i64 (a.2:Nat)]
theorem acells_cons (a:Nat×Nat) (l:List (Nat×Nat)):acells (a::l)= .int .i64 (a.1:Nat) :: .int .i64 (a.2:Nat)::acells l:=rfl
theorem acells_append (l m:List (Nat×Nat)):acells (l++m)=acells l++acells m:=by simp[acells]
theorem acells_length (l:List (Nat×Nat)):(acells l).length=l.length*2:=by
 induction l with
 | nil=>rfl
 | cons v l ih=>rw[acells_cons];simp only[List.length_cons,ih];omega
theorem acells_one (l:List (Nat×Nat)):∀u∈acells l,u.oneCell'=true:=by
 intro u hu;simp only[acells,List.mem_flatMap] at hu;obtain ⟨v,_,hv⟩:=hu;simp at hv;rcases hv with rfl|rfl<;>rfl
theorem acells_at (l:List (Nat×Nat)):∀(k:Nat) (h:k<l.length),(acells l)[k*2]?=some (.int .i64 (l[k].1:Nat))/\(acells l)[k*2+1]?=some (.int .i64 (l[k].2:Nat)):=by
 induction l with
 | nil=>intro k h;simp at h
 | cons v l ih=>
  intro k h;match k with
  | 0=>exact ⟨rfl,rfl⟩
  | k+1=>
   obtain ⟨i1,i2⟩:=ih k (by simpa using h);rw[acells_cons,show (k+1)*2=k*2+1+1 by omega];exact ⟨i1,i2⟩
theorem Ra.own {w:World} {base:Nat} {e:TypeId} {n c:Nat} {A:Option Addr} {l:List (Nat×Nat)} (h:w.ownsRow base e 2 (.slice A n c) n (acells l)):Ra w A l:=λh0=>by
 have hn:n=l.length:=by have:=h.1;rw[acells_length] at this;omega
 obtain ⟨g,e, -,hg,hc⟩:=own_blockU h (by omega);exact ⟨g,e,hg,λk hk=>⟨hc _ _ (acells_at l k hk).1,hc _ _ (acells_at l k hk).2⟩⟩
theorem info_arch:(Tryz.prog.info? 34).map (λi=>(i.zero,i.size,i.bytes))=some (some (.agg #[.int .i64 0, .int .i64 0]),2,16):=by kernel_rfl
theorem info_str:(Tryz.prog.info? 9).map (λi=>(i.zero,i.size,i.bytes))=some (some (.string ByteArray.empty),1,16):=by kernel_rfl
def scells (m:List (List UInt8)):List Value:=m.map λx=> .string ⟨x.toArray⟩
theorem scells_append (l m:List (List UInt8)):scells (l++m)=scells l++scells m:=by simp[scells]
theorem scells_length (m:List (List UInt8)):(scells m).length=m.length*1:=by simp[scells]
theorem Strs.own {w:World} {base:Nat} {e:TypeId} {n c:Nat} {A:Option Addr} {m:List (List UInt8)} (h:w.ownsRow base e 1 (.slice A n c) n (scells m)) (h0:0<m.length):∃g,A=some ⟨g,0,none⟩/\base<=g/\g<w.heap.size/\Strs w g m:=by
 have hn:n=m.length:=by have:=h.1;rw[scells_length] at this;omega
 obtain ⟨g,e,hb,hg,hc⟩:=own_blockU h (by omega);exact ⟨g,e,hb,hg,λk hk=>hc k _ (by simp[scells,List.getElem?_map,List.getElem?_eq_getElem hk])⟩
theorem Strs.gr {w w':World} {b:Nat} {m:List (List UInt8)} (h:Strs w b m) (hb:b<w.heap.size) (g:Gr w w'):Strs w' b m:=λk hk=>(bc g hb (h k hk))
theorem ext_eq (s:ByteArray) (f k:Nat):s.extract f k=⟨((s.data.toList.drop f).take (k-f)).toArray⟩:=by
 apply ByteArray.ext;apply Array.ext';rw[Lib.extract_data]
theorem partS_no (c:UInt8):∀l:List UInt8,(∀x∈l,x≠c)->partS c l=[l]
 | [],_=>rfl
 | x::r,h=>by
  have hx:(x==c)=false:=beq_eq_false_iff_ne.2 (h x (List.mem_cons_self ..));unfold partS;rw[hx,partS_no c r (λy hy=>h y (List.mem_cons_of_mem _ hy))];rfl
theorem partS_hit (c:UInt8) (r:List UInt8):∀p:List UInt8,(∀x∈p,x≠c)->partS c (p++c::r)=p::partS c r
 | [],_=>by
  simp only[List.nil_append]
  conv=>lhs;unfold partS
  simp
 | x::p,h=>by
  have hx:(x==c)=false:=beq_eq_false_iff_ne.2 (h x (List.mem_cons_self ..));simp only[List.cons_append]
  conv=>lhs;unfold partS
  rw[hx,partS_hit c r p (λy hy=>h y (List.mem_cons_of_mem _ hy))];rfl
theorem partS_ne (c:UInt8):∀l:List UInt8,0<(partS c l).length
 | []=>Nat.zero_lt_one
 | x::r=>by
  unfold partS;cases (x==c)
  ·simp only[cond_false];cases partS c r<;>simp
  ·simp
theorem partS_len (c:UInt8):∀l:List UInt8,(partS c l).length<=l.length+1
 | []=>Nat.le_refl _
 | x::r=>by
  have ih:=partS_len c r;unfold partS;cases (x==c)
  ·simp only[cond_false];cases h:partS c r with
   | nil=>simp
   | cons p m=>rw[h] at ih;simp at ih ⊢;omega
  ·simp;omega
theorem partS_mem (c:UInt8):∀(l:List UInt8),∀p∈partS c l,p.length<=l.length/\∀x∈p,x≠c
 | [],p,h=>by simp only[partS,List.mem_singleton] at h;subst h;exact ⟨Nat.le_refl _,λx hx=>by cases hx⟩
 | x::r,p,h=>by
  have ih:=partS_mem c r;unfold partS at h;cases hx:(x==c)
  ·rw[hx] at h;simp only[cond_false] at h;have hxc:x≠c:=beq_eq_false_iff_ne.1 hx;cases hp:partS c r with
   | nil=>
    rw[hp] at h;simp only[List.mem_singleton] at h;subst h;exact ⟨by simp,λy hy=>by rw[List.mem_singleton] at hy;subst hy;exact hxc⟩
   | cons q m=>
    rw[hp] at h ih;rcases List.mem_cons.1 h with rfl|h
    ·have:=ih q (List.mem_cons_self ..);refine ⟨by simpa using this.1,λy hy=>?_⟩;rcases List.mem_cons.1 hy with rfl|hy
     ·exact hxc
     ·exact this.2 y hy
    ·have:=ih p (List.mem_cons_of_mem _ h);exact ⟨by simp only[List.length_cons];omega,this.2⟩
  ·rw[hx] at h;simp only[cond_true] at h;rcases List.mem_cons.1 h with rfl|h
   ·exact ⟨by simp,λy hy=>by cases hy⟩
   ·have:=ih p h;exact ⟨by simp only[List.length_cons];omega,this.2⟩
theorem cutS_none {c:UInt8}:∀{l:List UInt8},cutS c l=none->∀x∈l,x≠c
 | [],_,x,hx=>by cases hx
 | y::r,h,x,hx=>by
  unfold cutS at h;cases hy:(y==c)
  ·rw[hy] at h;simp only[cond_false,Option.map_eq_none_iff] at h;rcases List.mem_cons.1 hx with rfl|hx
   ·exact beq_eq_false_iff_ne.1 hy
   ·exact cutS_none h x hx
  ·rw[hy] at h;cases h
theorem cutS_some {c:UInt8}:∀{l a b:List UInt8},cutS c l=some (a,b)->l=a++c::b/\∀x∈a,x≠c
 | [],a,b,h=>by cases h
 | y::r,a,b,h=>by
  unfold cutS at h;cases hy:(y==c)
  ·rw[hy] at h;simp only[cond_false,Option.map_eq_some_iff] at h;obtain ⟨⟨a',b'⟩,h1,h2⟩:=h;obtain ⟨h3,h4⟩:=cutS_some h1;simp only[Prod.mk.injEq] at h2;obtain ⟨rfl,rfl⟩:=h2;refine ⟨by rw[h3];rfl,λx hx=>?_⟩;rcases List.mem_cons.1 hx with rfl|hx
   ·exact beq_eq_false_iff_ne.1 hy
   ·exact h4 x hx
  ·rw[hy] at h;simp only[cond_true,Option.some.injEq,Prod.mk.injEq] at h;obtain ⟨rfl,rfl⟩:=h;have:y=c:=by simpa using hy
   subst this;exact ⟨rfl,λx hx=>by cases hx⟩
theorem partS_none {c:UInt8} {l:List UInt8} (h:cutS c l=none):partS c l=[l]:=partS_no c l (cutS_none h)
theorem partS_some {c:UInt8} {l a b:List UInt8} (h:cutS c l=some (a,b)):partS c l=a::partS c b:=by
 obtain ⟨h1,h2⟩:=cutS_some h;rw[h1];exact partS_hit c b a h2
def RetPU (m:List (List UInt8)) (w:World) (e:Ending) (w':World):Prop:=∃b c,e= .returned (.slice (some ⟨b,0,none⟩) m.length c)/\w.heap.size<=b/\b<w'.heap.size/\Strs w' b m/\Gr w w'
structure SpJ (c:UInt8) (l:List UInt8) (k f:Nat) (P:List (List UInt8)):Prop where
 fk:f<=k
 no:∀x∈(l.drop f).take (k-f),x≠c
 eq:partS c l=P++partS c (l.drop f)
 len:P.length<=k
theorem SpJ.step {c:UInt8} {l:List UInt8} {k f:Nat} {P:List (List UInt8)} (h:SpJ c l k f P) (hk:k<l.length) (hc:l[k]≠c):SpJ c l (k+1) f P:=by
 refine ⟨by have:=h.fk;omega,λx hx=>?_,h.eq,by have:=h.len;omega⟩;have hf:=h.fk;rw[show k+1-f=(k-f)+1 by omega,List.take_succ_eq_append_getElem (by rw[List.length_drop];omega),List.mem_append] at hx;rcases hx with hx|hx
 ·exact h.no x hx
 ·rw[List.mem_singleton] at hx;subst hx;simp only[List.getElem_drop];have:f+(k-f)=k:=by omega
  simp only[this];exact hc
theorem SpJ.hit {c:UInt8} {l:List UInt8} {k f:Nat} {P:List (List UInt8)} (h:SpJ c l k f P) (hk:k<l.length) (hc:l[k]=c):SpJ c l (k+1) (k+1) (P++[(l.drop f).take (k-f)]):=by
 have hf:=h.fk;refine ⟨Nat.le_refl _,λx hx=>(by rw[Nat.sub_self,List.take_zero] at hx;cases hx),?_,by have:=h.len;simp;omega⟩;have e:l.drop f=(l.drop f).take (k-f)++c::l.drop (k+1):=by
  conv=>lhs;rw[<-List.take_append_drop (k-f) (l.drop f)]
  rw[List.drop_drop,show f+(k-f)=k by omega,List.drop_eq_getElem_cons hk,hc]
 rw[h.eq]
 conv=>lhs;rw[e,partS_hit c _ _ h.no]
 simp
theorem SpJ.last {c:UInt8} {l:List UInt8} {f:Nat} {P:List (List UInt8)} (h:SpJ c l l.length f P):partS c l=P++[(l.drop f).take (l.length-f)]:=by
 have hf:=h.fk;have e:(l.drop f).take (l.length-f)=l.drop f:=by rw[List.take_of_length_le];simp
 have hno:=h.no;rw[e] at hno ⊢;rw[h.eq,partS_no c _ hno]
theorem ref_split (s:ByteArray) (hs:(s.size:Int)<=4096) (c:UInt8) (w:World):Calls Tryz.prog 27 #[.string s, .int .u8 c.toNat] w (RetPU (partS c s.data.toList) w):=by
 obtain ⟨i0,hi,hz0,hz1,hz2⟩:=info_parts info_str;have hsl:s.data.toList.length=s.size:=by simp
 go_enter Tryz.func27,Tryz.ntmps27;go_wp2
 go_loopw [5,6,7] (λv f i wr=>∃(k:Nat) (g:Nat) (P:List (List UInt8)),i= .int .i64 k/\f= .int .i64 g/\Gr w wr/\wr.ownsRow w.heap.size 9 1 v P.length (scells P)/\((k<=s.size/\SpJ c s.data.toList k g P)\/(k=s.size+1/\P=partS c s.data.toList)))
  (λ_ _ i _=>s.size+2-(intOf i).toNat)
 case atStart=>exact ⟨0,0,[],rfl,rfl,Gr.refl _,World.ownsRow_nil _ _ _ _, .inl ⟨Nat.zero_le _,Nat.le_refl _,λx hx=>by simp at hx,rfl,Nat.zero_le _⟩⟩
 case round=>
  obtain ⟨k,g,P,rfl,rfl,hgr,hown,hk⟩:=hrel;rcases hk with ⟨hk,J⟩|⟨rfl,hP⟩
  ·have hki:(k:Int)<=(s.size:Int):=by omega
   have hgk:(g:Int)<=(k:Int):=by have:=J.fk;omega
   have hPl:P.length<=4097:=by have:=J.len;omega
   have HJ:=Lib.hid J;have Hgr:=Lib.hid hgr;have hown0:=own_grU hown (Gr.alloc (Gr.refl wr) (.cells #[.string (s.extract g k)] 9));have hvl:=hown.lt;have hrx:Rd (wr.alloc (.cells #[.string (s.extract g k)] 9)) 1 (some ⟨wr.heap.size,0,none⟩) 1 [.string (s.extract g k)]:=Rd.newU (W:=wr) rfl 9 [.string (s.extract g k)] rfl;have hz:=hgr.size;by_cases hlt:k<s.size
   ·have hne:((k:Int)==(s.size:Int))=false:=beq_eq_false_iff_ne.2 (by omega);have hki2:(k:Int)<(s.size:Int):=by omega
    have hlk:k<s.data.toList.length:=by omega
    have hgk2:s.data.toList[k]=s[k]:=rfl;by_cases hc:s[k]=c
    ·have hc1:((s[k].toNat:Int)==(c.toNat:Int))=true:=by rw[hc];simp
     have HJ2:=Lib.hid (J.hit hlk (hgk2.trans hc));clear J hc hgk2;go_wp2_with (at_builtin;refine wpList_append_rd rfl (.tmp 25) (.tmp 30) 83 rfl w.heap.size 9 i0 _ 1 16 Tryz.underlying83 hi hz0 hz1 hz2 rfl (by decide) _ _ _ rfl hown0 (some ⟨wr.heap.size,0,none⟩) 1 _ [.string (s.extract g k)] rfl hrx (by simp[Value.oneCell']) (by unfold maxLen;omega) (by omega) (by simp;omega) ?_;intro v' w2 hown2 hgr2 hat2);have hg2:Gr w w2:=Gr.grown (Gr.alloc Hgr.out _) hgr2 (λk hk=>(hvl k hk).1);have HO:Hid (w2.ownsRow w.heap.size 9 1 v' (P++[(s.data.toList.drop g).take (k-g)]).length (scells (P++[(s.data.toList.drop g).take (k-g)]))):=Lib.hid (by
      rw[scells_append,List.length_append,show scells [(s.data.toList.drop g).take (k-g)]=[.string (s.extract g k)] by rw[ext_eq]<;>rfl];exact hown2)
     clear hown2 hgr2 hat2 hown0 hrx hvl;go_wp2;go_roundw;case rel=>exact ⟨k+1,k+1,_,by go_num,by go_num,hg2,HO.out, .inl ⟨by omega,HJ2.out⟩⟩
     case measure=>simp[intOf];omega
    ·have hc1:((s[k].toNat:Int)==(c.toNat:Int))=false:=beq_eq_false_iff_ne.2 λe=>hc (by rw[<-UInt8.toNat_inj];omega);have HJ2:=Lib.hid (J.step hlk (λe=>hc (hgk2.symm.trans e)));clear J hc hgk2 hown0 hrx;go_wp2;go_roundw;case rel=>exact ⟨k+1,g,P,by go_num,rfl,Hgr.out,hown, .inl ⟨by omega,HJ2.out⟩⟩
     case measure=>simp[intOf];omega
   ·have hkk:k=s.size:=by omega
    subst hkk;have hne:((s.size:Int)==(s.size:Int))=true:=by simp
    have HJ2:Hid (partS c s.data.toList=P++[(s.data.toList.drop g).take (s.size-g)]):=Lib.hid (by have h:=J;rw[<-hsl] at h;have:=h.last;rw[hsl] at this;exact this);clear J;go_wp2_with (at_builtin;refine wpList_append_rd rfl (.tmp 25) (.tmp 30) 83 rfl w.heap.size 9 i0 _ 1 16 Tryz.underlying83 hi hz0 hz1 hz2 rfl (by decide) _ _ _ rfl hown0 (some ⟨wr.heap.size,0,none⟩) 1 _ [.string (s.extract g s.size)] rfl hrx (by simp[Value.oneCell']) (by unfold maxLen;omega) (by omega) (by simp;omega) ?_;intro v' w2 hown2 hgr2 hat2);have hg2:Gr w w2:=Gr.grown (Gr.alloc Hgr.out _) hgr2 (λk hk=>(hvl k hk).1);have HO:Hid (w2.ownsRow w.heap.size 9 1 v' (P++[(s.data.toList.drop g).take (s.size-g)]).length (scells (P++[(s.data.toList.drop g).take (s.size-g)]))):=Lib.hid (by
     rw[scells_append,List.length_append,show scells [(s.data.toList.drop g).take (s.size-g)]=[.string (s.extract g s.size)] by rw[ext_eq]<;>rfl];exact hown2)
    clear hown2 hgr2 hat2 hown0 hrx hvl;go_wp2;go_roundw;case rel=>exact ⟨s.size+1,s.size+1,_,by go_num,by go_num,hg2,HO.out, .inr ⟨rfl,HJ2.out.symm⟩⟩
    case measure=>first|(simp[intOf];done)|(simp[intOf];omega)
  ·have hgt:¬(s.size:Int)+1<=(s.size:Int):=by omega
   subst hP;obtain ⟨A',c',hv⟩:=own_form hown;subst hv;obtain ⟨b,rfl,hb,hb2,hS⟩:=Strs.own hown (partS_ne c s.data.toList);have HH:=Lib.hid (And.intro hb (And.intro hb2 (And.intro hS hgr)));clear hown hb hb2 hS hgr;go_wp2;go_ret;exact ⟨b,c',rfl,HH.out⟩
theorem splitK_part (c:UInt8):∀(n:Nat) (l:List UInt8),l.length<=n->Lib.splitK [c] 0 (Lib.count l [c]) l=partS c l:=by
 intro n;induction n with
 | zero=>
  intro l h;obtain rfl:=List.length_eq_zero_iff.1 (Nat.le_zero.1 h);rfl
 | succ n ih=>
  intro l h;have hi:=index_one c l;cases hc:cutS c l with
  | none=>
   rw[hc] at hi;simp only at hi;rw[Lib.count_miss hi,partS_none hc];rfl
  | some p=>
   obtain ⟨a,b⟩:=p;rw[hc] at hi;simp only at hi;obtain ⟨h1,h2⟩:=hi;have hl:=cutS_len hc;have hd:l.drop (a.length+1)=b:=by
    conv=>lhs;rw[h2]
    rw[show a++c::b=(a++[c])++b by simp,show a.length+1=(a++[c]).length by simp,List.drop_left]
   have hs1:([c]:List UInt8).length=1:=rfl;rw[Lib.count_hit (by simp) h1,hs1,hd,Nat.add_comm 1 (Lib.count b [c]),partS_some hc];have hne:((a.length:Int) == -1)=false:=beq_eq_false_iff_ne.2 (by omega);unfold Lib.splitK;rw[h1,hne,hs1];simp only[Bool.false_eq_true,if_false,Int.toNat_natCast,Nat.add_zero];rw[hd,ih b (by omega)]
   congr 1
   conv=>lhs;rw[h2]
   rw[List.take_left]
theorem split_any (s:ByteArray) (c:UInt8) (hs:(s.size:Int)<=4096) (w:World) (hm:Ml w):Calls Tryz.prog 33 #[.string s, .string ⟨#[c]⟩] w (RetPU (partS c s.data.toList) w):=by
 obtain ⟨m,hm⟩:=hm;have hk:Lib.splitK [c] 0 (Lib.count s.data.toList [c]) s.data.toList=partS c s.data.toList:=splitK_part c _ _ (Nat.le_refl _);have hd:=Lib.splitB_data ⟨#[c]⟩ 0 (Lib.countB s ⟨#[c]⟩) s;have e0:(⟨#[c]⟩:ByteArray).data.toList=[c]:=rfl;rw[e0] at hd;have e1:Lib.countB s ⟨#[c]⟩=Lib.count s.data.toList [c]:=rfl;rw[e1,hk] at hd;have hlen:=Lib.splitB_all ⟨#[c]⟩ (Nat.le_refl 1) 0 _ s rfl;rw[e1] at hlen;have hl2:(partS c s.data.toList).length=Lib.count s.data.toList [c]+1:=by rw[<-hd,List.length_map];exact hlen
 refine (Tryz.strings_Split s ⟨#[c]⟩ m w (by omega) hm (Nat.le_refl 1)).mono ?_;rintro e w' ⟨rfl,rfl⟩;rw[e1,<-hl2];refine ⟨w.heap.size,_,rfl,Nat.le_refl _,by simp,?_,Gr.alloc (Gr.refl w) _⟩;have e3:((Lib.splitB ⟨#[c]⟩ 0 (Lib.count s.data.toList [c]) s).map Value.string)=scells (partS c s.data.toList):=by
  rw[<-hd];unfold scells;rw[List.map_map];rfl
 rw[e3];intro k hk';have:(scells (partS c s.data.toList))[k]?=some (.string ⟨((partS c s.data.toList)[k]).toArray⟩):=by simp[scells,List.getElem?_map,List.getElem?_eq_getElem hk']
 exact (cell_of_row _ _ _ _ _ _ (heap_alloc_new w _)).trans (by simpa using this)
end Go.Proofs.YtjapddfnpmlifaaGreatDoor
