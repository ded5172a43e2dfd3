import Derived.Test.YtjapddfnpmlifaaGreatDoorRunRxPairs
import Derived.Test.YtjapddfnpmlifaaGreatDoorRunFxBase
import Derived.IntWalk
import Derived.Deep.Light
import Derived.Deep.Cut
import Derived.Deep.CutRange
set_option linter.all false
set_option maxRecDepth 1000000
set_option maxHeartbeats 12800000
namespace Go.Proofs.YtjapddfnpmlifaaGreatDoor
open Go.RowKit
theorem wrap_in (x:Int) (h:0<=x) (h':x<=1000000):IntKind.i64.wrap x=x:=IntWalk.i64_in x ⟨by omega,by omega⟩
theorem rng_no {w:World} {R n:Nat} {s:ByteArray} {q:Rs} (h:Rdr w R s n q) (hs:(s.size:Int)<=4096) (hq:headIs 45 q.rest=false) :
  Calls Tryz.prog 163 #[.pointer (some ⟨R,0,none⟩)] w λe w'=>e= .returned (.bool false)/\Gr w w':=by
 have QI:=λw (h:Rdr w R s n q)=>is_no h hs 45 (by decide) hq;clear hq;have HF:Hid (∀W,Gr w W->W.cell? ⟨R,0,none⟩=some (.string s)/\W.cell? ⟨R,1,none⟩=some (.int .i64 n)):=Lib.hid (λW hW=>⟨(hW.cell (p:=⟨R,0,none⟩) h.lt).trans h.c0,(hW.cell (p:=⟨R,1,none⟩) h.lt).trans h.c1⟩);go_enter Tryz.func163,Tryz.ntmps163;go_wp2;refine region_R (by kernel_rfl) (by kernel_rfl) ?_;(iterate 3 refine rv ?_);refine rc (.bool false) (λW hW=>QI W (h.gr hW)) ?_;(iterate 2 refine rv ?_);(iterate 13 refine rs ?_);(iterate 2 refine rv ?_);(iterate 13 refine rs ?_);refine rv ?_;refine r_nil ?_;intro w1 hg1;go_wp2;go_ret;exact ⟨rfl,hg1⟩
theorem rng_end {w:World} {R n:Nat} {s:ByteArray} {q:Rs} (h:Rdr w R s n q) (hs:(s.size:Int)<=4096) {c:UInt8} (hc:c.toNat=45) (hq:q.rest=[c]) :
  Calls Tryz.prog 163 #[.pointer (some ⟨R,0,none⟩)] w λe w'=>e= .returned (.bool false)/\Gr w w':=by
 have QI:=λw (h:Rdr w R s n q)=>is_yes h hs 45 (by decide) (by rw[hq];simp[headIs,hc]);have hl:=h.len;rw[hq] at hl;simp at hl;have hd1:decide ((n:Int)+1≥(s.size:Int))=true:=decide_eq_true (by omega);have hd1':(s.size:Int)<=(n:Int)+1:=by omega
 have hwr:=wrap_in ((n:Int)+1) (by omega) (by omega);clear hl;clear hq;have HF:Hid (∀W,Gr w W->W.cell? ⟨R,0,none⟩=some (.string s)/\W.cell? ⟨R,1,none⟩=some (.int .i64 n)):=Lib.hid (λW hW=>⟨(hW.cell (p:=⟨R,0,none⟩) h.lt).trans h.c0,(hW.cell (p:=⟨R,1,none⟩) h.lt).trans h.c1⟩);go_enter Tryz.func163,Tryz.ntmps163;go_wp2;refine region_R (by kernel_rfl) (by kernel_rfl) ?_;(iterate 3 refine rv ?_);refine rc (.bool true) (λW hW=>QI W (h.gr hW)) ?_;(iterate 6 refine rv ?_);refine rv ?_ (h:=λW hW=>by obtain ⟨y0,y1⟩:=HF.out W hW;go_light;go_simp<;>rfl);(iterate 5 refine rv ?_);refine rv ?_ (h:=λW hW=>by obtain ⟨y0,y1⟩:=HF.out W hW;go_light;go_simp<;>rfl);(iterate 4 refine rv ?_);(iterate 13 refine rs ?_);refine rv ?_;refine r_nil ?_;intro w1 hg1;go_wp2;go_ret;exact ⟨rfl,hg1⟩
theorem rng_shut {w:World} {R n:Nat} {s:ByteArray} {q:Rs} (h:Rdr w R s n q) (hs:(s.size:Int)<=4096) {c d:UInt8} {r:List UInt8} (hc:c.toNat=45) (hq:q.rest=c::d::r) (hdd:d.toNat=93) :
  Calls Tryz.prog 163 #[.pointer (some ⟨R,0,none⟩)] w λe w'=>e= .returned (.bool false)/\Gr w w':=by
 have QI:=λw (h:Rdr w R s n q)=>is_yes h hs 45 (by decide) (by rw[hq];simp[headIs,hc]);have hl:=h.len;have hr:=h.rest;rw[hq] at hl hr;simp at hl;have hd1':(n:Int)+1<(s.size:Int):=by omega
 have hd1:decide ((s.size:Int)<=(n:Int)+1)=false:=decide_eq_false (by omega);obtain ⟨hn1,hb1⟩:=drop_byte (s:=s) (n:=n+1) (c:=d) (r:=r) (by rw[<-List.drop_drop,hr];rfl);have hwr:=wrap_in ((n:Int)+1) (by omega) (by omega);clear hl hr hq;have hd:((d.toNat:Int)==93)=true:=beq_iff_eq.2 (by omega);clear hdd;have HF:Hid (∀W,Gr w W->W.cell? ⟨R,0,none⟩=some (.string s)/\W.cell? ⟨R,1,none⟩=some (.int .i64 n)):=Lib.hid (λW hW=>⟨(hW.cell (p:=⟨R,0,none⟩) h.lt).trans h.c0,(hW.cell (p:=⟨R,1,none⟩) h.lt).trans h.c1⟩);go_enter Tryz.func163,Tryz.ntmps163;go_wp2;refine region_R (by kernel_rfl) (by kernel_rfl) ?_;(iterate 3 refine rv ?_);refine rc (.bool true) (λW hW=>QI W (h.gr hW)) ?_;(iterate 6 refine rv ?_);refine rv ?_ (h:=λW hW=>by obtain ⟨y0,y1⟩:=HF.out W hW;go_light;go_simp<;>rfl);(iterate 5 refine rv ?_);refine rv ?_ (h:=λW hW=>by obtain ⟨y0,y1⟩:=HF.out W hW;go_light;go_simp<;>rfl);(iterate 8 refine rv ?_);refine rv ?_ (h:=λW hW=>by obtain ⟨y0,y1⟩:=HF.out W hW;go_light;go_simp<;>rfl);(iterate 4 refine rv ?_);refine rv ?_ (h:=λW hW=>by obtain ⟨y0,y1⟩:=HF.out W hW;go_light;go_simp<;>rfl);(iterate 4 refine rv ?_);refine r_nil ?_;intro w1 hg1;go_wp2;go_ret;exact ⟨rfl,hg1⟩
theorem rng_plain {w:World} {R n:Nat} {s:ByteArray} {q:Rs} (h:Rdr w R s n q) (hs:(s.size:Int)<=4096) {c d:UInt8} {r:List UInt8} (hc:c.toNat=45) (hq:q.rest=c::d::r) (hdd:d.toNat≠93) (hdd2:d.toNat≠92) :
  Calls Tryz.prog 163 #[.pointer (some ⟨R,0,none⟩)] w λe w'=>e= .returned (.bool true)/\Gr w w':=by
 have QI:=λw (h:Rdr w R s n q)=>is_yes h hs 45 (by decide) (by rw[hq];simp[headIs,hc]);have hl:=h.len;have hr:=h.rest;rw[hq] at hl hr;simp at hl;have hd1':(n:Int)+1<(s.size:Int):=by omega
 have hd1:decide ((s.size:Int)<=(n:Int)+1)=false:=decide_eq_false (by omega);obtain ⟨hn1,hb1⟩:=drop_byte (s:=s) (n:=n+1) (c:=d) (r:=r) (by rw[<-List.drop_drop,hr];rfl);have hwr:=wrap_in ((n:Int)+1) (by omega) (by omega);clear hl hr hq;have hd:((d.toNat:Int)==93)=false:=beq_eq_false_iff_ne.2 (by omega);have hd2:((d.toNat:Int) != 92)=true:=by simp[bne,beq_eq_false_iff_ne.2 (show (d.toNat:Int)≠92 by omega)]
 clear hdd hdd2;have HF:Hid (∀W,Gr w W->W.cell? ⟨R,0,none⟩=some (.string s)/\W.cell? ⟨R,1,none⟩=some (.int .i64 n)):=Lib.hid (λW hW=>⟨(hW.cell (p:=⟨R,0,none⟩) h.lt).trans h.c0,(hW.cell (p:=⟨R,1,none⟩) h.lt).trans h.c1⟩);go_enter Tryz.func163,Tryz.ntmps163;go_wp2;refine region_R (by kernel_rfl) (by kernel_rfl) ?_;(iterate 3 refine rv ?_);refine rc (.bool true) (λW hW=>QI W (h.gr hW)) ?_;(iterate 6 refine rv ?_);refine rv ?_ (h:=λW hW=>by obtain ⟨y0,y1⟩:=HF.out W hW;go_light;go_simp<;>rfl);(iterate 5 refine rv ?_);refine rv ?_ (h:=λW hW=>by obtain ⟨y0,y1⟩:=HF.out W hW;go_light;go_simp<;>rfl);(iterate 8 refine rv ?_);refine rv ?_ (h:=λW hW=>by obtain ⟨y0,y1⟩:=HF.out W hW;go_light;go_simp<;>rfl);(iterate 4 refine rv ?_);refine rv ?_ (h:=λW hW=>by obtain ⟨y0,y1⟩:=HF.out W hW;go_light;go_simp<;>rfl);(iterate 4 refine rv ?_);refine r_nil ?_;intro w1 hg1;have h1:=h.gr hg1;have HF1:Hid (∀W,Gr w1 W->W.cell? ⟨R,0,none⟩=some (.string s)/\W.cell? ⟨R,1,none⟩=some (.int .i64 n)):=Lib.hid (λW hW=>⟨(hW.cell (p:=⟨R,0,none⟩) h1.lt).trans h1.c0,(hW.cell (p:=⟨R,1,none⟩) h1.lt).trans h1.c1⟩);clear HF;have HF:=HF1;clear HF1;go_wp2;refine region_R (by kernel_rfl) (by kernel_rfl) ?_;(iterate 4 refine rv ?_);refine rv ?_ (h:=λW hW=>by obtain ⟨y0,y1⟩:=HF.out W hW;go_light;go_simp<;>rfl);(iterate 4 refine rv ?_);refine rv ?_ (h:=λW hW=>by obtain ⟨y0,y1⟩:=HF.out W hW;go_light;go_simp<;>rfl);(iterate 4 refine rv ?_);(iterate 13 refine rs ?_);refine rv ?_;refine r_nil ?_;intro w2 hg2;go_wp2;go_ret;exact ⟨rfl,(Gr.trans hg1 hg2)⟩
theorem rng_last {w:World} {R n:Nat} {s:ByteArray} {q:Rs} (h:Rdr w R s n q) (hs:(s.size:Int)<=4096) {c d:UInt8} (hc:c.toNat=45) (hq:q.rest=[c,d]) (hdd:d.toNat=92) :
  Calls Tryz.prog 163 #[.pointer (some ⟨R,0,none⟩)] w λe w'=>e= .returned (.bool true)/\Gr w w':=by
 have QI:=λw (h:Rdr w R s n q)=>is_yes h hs 45 (by decide) (by rw[hq];simp[headIs,hc]);have hl:=h.len;have hr:=h.rest;rw[hq] at hl hr;simp at hl;have hd1':(n:Int)+1<(s.size:Int):=by omega
 have hd1:decide ((s.size:Int)<=(n:Int)+1)=false:=decide_eq_false (by omega);obtain ⟨hn1,hb1⟩:=drop_byte (s:=s) (n:=n+1) (c:=d) (r:=[]) (by rw[<-List.drop_drop,hr];rfl);have hwr:=wrap_in ((n:Int)+1) (by omega) (by omega);have hd3:(s.size:Int)<=(n:Int)+2:=by omega
 have hwr2:=wrap_in ((n:Int)+2) (by omega) (by omega);clear hl hr hq;have hd:((d.toNat:Int)==93)=false:=beq_eq_false_iff_ne.2 (by omega);have hd2:((d.toNat:Int) != 92)=false:=by rw[hdd];rfl
 clear hdd;have HF:Hid (∀W,Gr w W->W.cell? ⟨R,0,none⟩=some (.string s)/\W.cell? ⟨R,1,none⟩=some (.int .i64 n)):=Lib.hid (λW hW=>⟨(hW.cell (p:=⟨R,0,none⟩) h.lt).trans h.c0,(hW.cell (p:=⟨R,1,none⟩) h.lt).trans h.c1⟩);go_enter Tryz.func163,Tryz.ntmps163;go_wp2;refine region_R (by kernel_rfl) (by kernel_rfl) ?_;(iterate 3 refine rv ?_);refine rc (.bool true) (λW hW=>QI W (h.gr hW)) ?_;(iterate 6 refine rv ?_);refine rv ?_ (h:=λW hW=>by obtain ⟨y0,y1⟩:=HF.out W hW;go_light;go_simp<;>rfl);(iterate 5 refine rv ?_);refine rv ?_ (h:=λW hW=>by obtain ⟨y0,y1⟩:=HF.out W hW;go_light;go_simp<;>rfl);(iterate 8 refine rv ?_);refine rv ?_ (h:=λW hW=>by obtain ⟨y0,y1⟩:=HF.out W hW;go_light;go_simp<;>rfl);(iterate 4 refine rv ?_);refine rv ?_ (h:=λW hW=>by obtain ⟨y0,y1⟩:=HF.out W hW;go_light;go_simp<;>rfl);(iterate 4 refine rv ?_);refine r_nil ?_;intro w1 hg1;have h1:=h.gr hg1;have HF1:Hid (∀W,Gr w1 W->W.cell? ⟨R,0,none⟩=some (.string s)/\W.cell? ⟨R,1,none⟩=some (.int .i64 n)):=Lib.hid (λW hW=>⟨(hW.cell (p:=⟨R,0,none⟩) h1.lt).trans h1.c0,(hW.cell (p:=⟨R,1,none⟩) h1.lt).trans h1.c1⟩);clear HF;have HF:=HF1;clear HF1;go_wp2;refine region_R (by kernel_rfl) (by kernel_rfl) ?_;(iterate 4 refine rv ?_);refine rv ?_ (h:=λW hW=>by obtain ⟨y0,y1⟩:=HF.out W hW;go_light;go_simp<;>rfl);(iterate 4 refine rv ?_);refine rv ?_ (h:=λW hW=>by obtain ⟨y0,y1⟩:=HF.out W hW;go_light;go_simp<;>rfl);(iterate 8 refine rv ?_);refine rv ?_ (h:=λW hW=>by obtain ⟨y0,y1⟩:=HF.out W hW;go_light;go_simp<;>rfl);(iterate 5 refine rv ?_);refine rv ?_ (h:=λW hW=>by obtain ⟨y0,y1⟩:=HF.out W hW;go_light;go_simp<;>rfl);(iterate 3 refine rv ?_);refine r_nil ?_;intro w2 hg2;go_wp2;go_ret;exact ⟨rfl,(Gr.trans hg1 hg2)⟩
theorem rng_named {w:World} {R n:Nat} {s:ByteArray} {q:Rs} (h:Rdr w R s n q) (hs:(s.size:Int)<=4096) {c d x:UInt8} {r:List UInt8} (hc:c.toNat=45) (hq:q.rest=c::d::x::r) (hdd:d.toNat=92) :
  Calls Tryz.prog 163 #[.pointer (some ⟨R,0,none⟩)] w λe w'=>e= .returned (.bool (!isNamed x.toNat))/\Gr w w':=by
 have QI:=λw (h:Rdr w R s n q)=>is_yes h hs 45 (by decide) (by rw[hq];simp[headIs,hc]);have hl:=h.len;have hr:=h.rest;rw[hq] at hl hr;simp at hl;have hd1':(n:Int)+1<(s.size:Int):=by omega
 have hd1:decide ((s.size:Int)<=(n:Int)+1)=false:=decide_eq_false (by omega);obtain ⟨hn1,hb1⟩:=drop_byte (s:=s) (n:=n+1) (c:=d) (r:=x::r) (by rw[<-List.drop_drop,hr];rfl);have hwr:=wrap_in ((n:Int)+1) (by omega) (by omega);have hd3:¬(s.size:Int)<=(n:Int)+2:=by omega
 have hd4:(n:Int)+2<(s.size:Int):=by omega
 obtain ⟨hn2,hb2⟩:=drop_byte (s:=s) (n:=n+2) (c:=x) (r:=r) (by rw[<-List.drop_drop,hr];rfl);have hwr2:=wrap_in ((n:Int)+2) (by omega) (by omega);clear hl hr hq;have hd:((d.toNat:Int)==93)=false:=beq_eq_false_iff_ne.2 (by omega);have hd2:((d.toNat:Int) != 92)=false:=by rw[hdd];rfl
 clear hdd;have QN:=λw=>named_any x.toNat w x.toNat_lt;obtain ⟨hz,hsz⟩:=zero_of_info info_set;have HF:Hid (∀W,Gr w W->W.cell? ⟨R,0,none⟩=some (.string s)/\W.cell? ⟨R,1,none⟩=some (.int .i64 n)):=Lib.hid (λW hW=>⟨(hW.cell (p:=⟨R,0,none⟩) h.lt).trans h.c0,(hW.cell (p:=⟨R,1,none⟩) h.lt).trans h.c1⟩);go_enter Tryz.func163,Tryz.ntmps163;go_wp2;refine region_R (by kernel_rfl) (by kernel_rfl) ?_;(iterate 3 refine rv ?_);refine rc (.bool true) (λW hW=>QI W (h.gr hW)) ?_;(iterate 6 refine rv ?_);refine rv ?_ (h:=λW hW=>by obtain ⟨y0,y1⟩:=HF.out W hW;go_light;go_simp<;>rfl);(iterate 5 refine rv ?_);refine rv ?_ (h:=λW hW=>by obtain ⟨y0,y1⟩:=HF.out W hW;go_light;go_simp<;>rfl);(iterate 8 refine rv ?_);refine rv ?_ (h:=λW hW=>by obtain ⟨y0,y1⟩:=HF.out W hW;go_light;go_simp<;>rfl);(iterate 4 refine rv ?_);refine rv ?_ (h:=λW hW=>by obtain ⟨y0,y1⟩:=HF.out W hW;go_light;go_simp<;>rfl);(iterate 4 refine rv ?_);refine r_nil ?_;intro w1 hg1;have h1:=h.gr hg1;have HF1:Hid (∀W,Gr w1 W->W.cell? ⟨R,0,none⟩=some (.string s)/\W.cell? ⟨R,1,none⟩=some (.int .i64 n)):=Lib.hid (λW hW=>⟨(hW.cell (p:=⟨R,0,none⟩) h1.lt).trans h1.c0,(hW.cell (p:=⟨R,1,none⟩) h1.lt).trans h1.c1⟩);clear HF;have HF:=HF1;clear HF1;go_wp2;refine region_R (by kernel_rfl) (by kernel_rfl) ?_;(iterate 4 refine rv ?_);refine rv ?_ (h:=λW hW=>by obtain ⟨y0,y1⟩:=HF.out W hW;go_light;go_simp<;>rfl);(iterate 4 refine rv ?_);refine rv ?_ (h:=λW hW=>by obtain ⟨y0,y1⟩:=HF.out W hW;go_light;go_simp<;>rfl);(iterate 8 refine rv ?_);refine rv ?_ (h:=λW hW=>by obtain ⟨y0,y1⟩:=HF.out W hW;go_light;go_simp<;>rfl);(iterate 5 refine rv ?_);refine rv ?_ (h:=λW hW=>by obtain ⟨y0,y1⟩:=HF.out W hW;go_light;go_simp<;>rfl);(iterate 3 refine rv ?_);refine r_nil ?_;intro w2 hg2;have h2:=h1.gr hg2;have HF2:Hid (∀W,Gr w2 W->W.cell? ⟨R,0,none⟩=some (.string s)/\W.cell? ⟨R,1,none⟩=some (.int .i64 n)):=Lib.hid (λW hW=>⟨(hW.cell (p:=⟨R,0,none⟩) h2.lt).trans h2.c0,(hW.cell (p:=⟨R,1,none⟩) h2.lt).trans h2.c1⟩);clear HF;have HF:=HF2;clear HF2;go_wp2;go_upto_region 5 with (fail)
 go_cut [4] from 68 to 84 (λp wx=>p= .bool (isNamed x.toNat)/\Gr w2 wx)
 case first=>
  have hS0:Gr w2 w2.drew:=Gr.drew (Gr.refl _);obtain ⟨V,hV⟩:∃V,V=w2.drew:=⟨_,rfl⟩
  refine wp_region_Z 18 (λW=>Gr w2 W) (by kernel_rfl) ?_;rw[<-hV] at hS0 ⊢;clear hV;refine zt 0 hS0 ?_ (hy:=λW hS=>by go_light;go_simp<;>rfl);refine zt 1 hS0 ?_ (hy:=λW hS=>by go_light;go_simp<;>rfl);refine zt 2 hS0 ?_ (hy:=λW hS=>by go_light;go_simp<;>rfl);refine zt 3 hS0 ?_ (hy:=λW hS=>by go_light;go_simp<;>rfl);refine zt 4 hS0 ?_ (hy:=λW hS=>by obtain ⟨y0,y1⟩:=HF.out W hS;go_light;go_simp<;>rfl);refine zt 5 hS0 ?_ (hy:=λW hS=>by go_light;go_simp<;>rfl);refine zt 6 hS0 ?_ (hy:=λW hS=>by go_light;go_simp<;>rfl);refine zt 7 hS0 ?_ (hy:=λW hS=>by go_light;go_simp<;>rfl);refine zt 8 hS0 ?_ (hy:=λW hS=>by go_light;go_simp<;>rfl);refine zt 9 hS0 ?_ (hy:=λW hS=>by obtain ⟨y0,y1⟩:=HF.out W hS;go_light;go_simp<;>rfl);refine zt 10 hS0 ?_ (hy:=λW hS=>by go_light;go_simp<;>rfl);refine wpAnyZ_take (i:=11) (v:= .int .u8 (x.toNat:Int)) rfl (by kernel_rfl) (λ_ _ _ h=>h) (by rfl) (λW hS=>?h12) hS0 ?r12;case h12=>
   go_light;have z0:(0:Int)<=(n:Int)+2:=by omega
   have z1:((n:Int)+2).toNat=n+2:=by omega
   go_simp
  simp only[Act.put,List.setIfInBounds_toArray,List.set_cons_zero,List.set_cons_succ];refine wpAnyZ_ready (rs:=[12,16]) (by kernel_rfl) (by simp) ?_;refine AllReadyZ.cons rfl (by rfl) (λK hK=>?_) (AllReadyZ.cons rfl (by rfl) (λK hK=>?_) AllReadyZ.nil)
  ·go_simp;refine (QN _).mono ?_;rintro e w901 ⟨rfl,hg903⟩;have g902:=Gr.trans hS0 hg903;clear hg903;go_wp2_with fail;refine hK.out _ _ (λhnz=>?s13) (λ_=>?r13);case s13=>exact g902
   clear hK K;try simp only[Pu]
   refine zt 13 g902 ?_ (hy:=λW hS=>by go_light;go_simp<;>rfl);refine zt 14 g902 ?_ (hy:=λW hS=>by go_light;go_simp<;>rfl);refine zt 15 g902 ?_ (hy:=λW hS=>by go_light;go_simp<;>rfl);refine wpAnyZ_ready (rs:=[16]) (by kernel_rfl) (by simp) ?_;refine AllReadyZ.cons rfl (by rfl) (λK hK=>?_) AllReadyZ.nil
   ·have g904:=Gr.alloc g902 (.cells (bsA noB) 219);have r905:=SetAt.new w901 noB;go_wp2_with fail;refine hK.out _ _ (λhnz=>?s17) (λ_=>?r17);case s17=>exact g904
    clear hK K;try simp only[Pu]
    obtain ⟨V906,hV906⟩:∃V906,V906=w901.alloc (.cells (bsA noB) 219):=⟨_,rfl⟩
    rw[<-hV906] at g904 r905 ⊢;clear hV906;refine wpAnyZ_ready (rs:=[17]) (by kernel_rfl) (by simp) ?_;refine AllReadyZ.cons rfl (by rfl) (λK hK=>?_) AllReadyZ.nil
    ·have g907:=Gr.setRow g904 g902.size (bsA (nmB x.toNat));refine wp_store_row 219 (.tmp 3) (.tmp 82) rfl (w901.heap.size) (bsA (nmB x.toNat)) rfl rfl _ _ r905 (size_bsA _) (by simp only[bsA_size]) (bsA_one _) ?_;refine hK.out _ _ (λhnz=>?s18) (λ_=>?r18);case s18=>exact g907
     clear hK K;try simp only[Pu]
     refine wpAnyZ_ready (rs:=[18]) (by kernel_rfl) (by simp) ?_;refine AllReadyZ.cons rfl (by rfl) (λK hK=>?_) AllReadyZ.nil
     ·go_simp;refine hK.out _ _ (λhnz=>absurd rfl hnz) (λ_=>?_);clear hK K;try simp only[Pu]
      refine wpAnyZ_done (by kernel_rfl) ?_ _;go_wp2_with fail;go_meet;exact ⟨rfl,g907⟩
  ·have g908:=Gr.alloc hS0 (.cells (bsA noB) 219);have r909:=SetAt.new V noB;go_wp2_with fail;refine hK.out _ _ (λhnz=>?s19) (λ_=>?r19);case s19=>exact g908
   clear hK K;try simp only[Pu]
   obtain ⟨V910,hV910⟩:∃V910,V910=V.alloc (.cells (bsA noB) 219):=⟨_,rfl⟩
   rw[<-hV910] at g908 r909 ⊢;clear hV910;refine wpAnyZ_ready (rs:=[12]) (by kernel_rfl) (by simp) ?_;refine AllReadyZ.cons rfl (by rfl) (λK hK=>?_) AllReadyZ.nil
   ·go_simp;refine (QN _).mono ?_;rintro e w911 ⟨rfl,hg913⟩;have g912:=Gr.trans g908 hg913;have r914:=r909.gr hg913;clear hg913;go_wp2_with fail;refine hK.out _ _ (λhnz=>?s20) (λ_=>?r20);case s20=>exact g912
    clear hK K;try simp only[Pu]
    refine zt 13 g912 ?_ (hy:=λW hS=>by go_light;go_simp<;>rfl);refine zt 14 g912 ?_ (hy:=λW hS=>by go_light;go_simp<;>rfl);refine zt 15 g912 ?_ (hy:=λW hS=>by go_light;go_simp<;>rfl);refine wpAnyZ_ready (rs:=[17]) (by kernel_rfl) (by simp) ?_;refine AllReadyZ.cons rfl (by rfl) (λK hK=>?_) AllReadyZ.nil
    ·have g915:=Gr.setRow g912 hS0.size (bsA (nmB x.toNat));refine wp_store_row 219 (.tmp 3) (.tmp 82) rfl (V.heap.size) (bsA (nmB x.toNat)) rfl rfl _ _ r914 (size_bsA _) (by simp only[bsA_size]) (bsA_one _) ?_;refine hK.out _ _ (λhnz=>?s24) (λ_=>?r24);case s24=>exact g915
     clear hK K;try simp only[Pu]
     refine wpAnyZ_ready (rs:=[18]) (by kernel_rfl) (by simp) ?_;refine AllReadyZ.cons rfl (by rfl) (λK hK=>?_) AllReadyZ.nil
     ·go_simp;refine hK.out _ _ (λhnz=>absurd rfl hnz) (λ_=>?_);clear hK K;try simp only[Pu]
      refine wpAnyZ_done (by kernel_rfl) ?_ _;go_wp2_with fail;go_meet;exact ⟨rfl,g915⟩
 case rest=>
 obtain ⟨rfl,hg3⟩:=hcut;go_wp2;go_ret;exact ⟨rfl,Gr.trans (Gr.trans hg1 hg2) hg3⟩
theorem ranges_any {w:World} {R n:Nat} {s:ByteArray} {q:Rs} (h:Rdr w R s n q) (hs:(s.size:Int)<=4096) :
  Calls Tryz.prog 163 #[.pointer (some ⟨R,0,none⟩)] w λe w'=>e= .returned (.bool (rangesS q.rest))/\Gr w w':=by
 cases hh:headIs 45 q.rest
 ·have e:rangesS q.rest=false:=by
   match q.rest,hh with
   | [],_=>rfl
   | [_],_=>rfl
   | c::d::r,hh=>simp only[headIs] at hh;simp[rangesS,hh]
  rw[e];exact rng_no h hs hh
 ·obtain ⟨c,r,hq,hc⟩:=headIs_cons hh;have hcb:(c.toNat==45)=true:=by rw[hc];rfl
  match r,hq with
  | [],hq=>rw[hq];exact rng_end h hs hc hq
  | d::r,hq=>
   by_cases h93:d.toNat=93
   ·rw[hq,show rangesS (c::d::r)=false by simp[rangesS,hcb,h93]];exact rng_shut h hs hc hq h93
   ·have q93:(d.toNat==93)=false:=beq_eq_false_iff_ne.2 h93;by_cases h92:d.toNat=92
    ·have q92:(d.toNat==92)=true:=by rw[h92];rfl
     match r,hq with
     | [],hq=>rw[hq,show rangesS [c,d]=true by simp[rangesS,hcb,q93]];exact rng_last h hs hc hq h92
     | x::r,hq=>rw[hq,show rangesS (c::d::x::r)= !isNamed x.toNat by simp[rangesS,hcb,q93,q92]];exact rng_named h hs hc hq h92
    ·have q92:(d.toNat==92)=false:=beq_eq_false_iff_ne.2 h92;rw[hq,show rangesS (c::d::r)=true by simp[rangesS,hcb,q93,q92]];exact rng_plain h hs hc hq h93 h92
end Go.Proofs.YtjapddfnpmlifaaGreatDoor
