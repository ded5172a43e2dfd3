import Derived.Test.YtjapddfnpmlifaaGreatDoorRunPkRep
set_option linter.all false
set_option maxRecDepth 1000000
set_option maxHeartbeats 12800000
namespace Go.Proofs.YtjapddfnpmlifaaGreatDoor
open Go.RowKit
section
variable {G n cA B1 N k p ms cs a g cv Bw Bq M i:Nat} {A:Option Addr} {code:List In} {s:ByteArray} {w wr wC:World} {op x y:Int} {ps:List UInt8} {σ:Nat->Bool} {T0:List Wy} {Q:Exit->Act->World->Prop} {c u:Nat->Value}
theorem arm_1 (H:ArmH G n cA B1 N k p ms cs a g cv Bw Bq M i A code s w wr wC 1 x y ps σ T0 Q c) (hc:u 100= .bool true):(condR 100).wp Tryz.prog Q ⟨frW c u s w.heap.size (.slice (some ⟨g,0,none⟩) T0.length cv) Bw Bq 1,[]⟩ wC:=by
 obtain ⟨HK,HVV,HPS,HVis,HFND,Hlen,HUV,Hmeas,HIC,HSV4,e0,e1,e2,q0,q1,q2,q3,hwC,hqC,hBw,hgw,hTi,hcvi,hcvm,hpi,hp,hs,hkn,HQ,HR⟩:=H;unfold frW;rw[hc];clear hc;obtain ⟨j0,hj0,jz0,jz1,jz2⟩:=info_parts info_int12;obtain ⟨i0,hi0,hz0,hz1,hz2⟩:=info_parts info_way12;have hhz:w.heap.size<wC.heap.size:=Nat.lt_trans HIC.out.hB.1 HIC.out.hB.2;obtain ⟨b0,b1⟩:=And.intro HIC.out.b0 HIC.out.b1
 conv=>arg 2;whnf
 by_cases hps:p<s.size
 ·have hpi2:(p:Int)<(s.size:Int):=by omega
  have hdec:decide ((p:Int)<(s.size:Int))=true:=decide_eq_true hpi2;obtain ⟨hb,hhb⟩:∃hb,hb=hasS ps (s[p].toNat:Int):=⟨_,rfl⟩
  have HHC:=λW=>rhas_any ⟨ps.toArray⟩ (by have:=HPS.out _ (List.getElem_mem HK.out);rw[HVV.out] at this;simp only at this;show ((ps.toArray.size:Nat):Int)<=_;rw[List.size_toArray];omega) (s[p].toNat:Int) W;rw[show (⟨ps.toArray⟩:ByteArray).data.toList=ps from rfl,<-hhb] at HHC;have HHH:Hid (∀W,Calls Tryz.prog 130 #[.string ⟨ps.toArray⟩, .int .u8 (s[p].toNat:Int)] W (λe w'=>e= .returned (.bool hb)/\Gr W w')):=Lib.hid λW=>(HHC W).mono λe w' h=>⟨h.1,by rw[<-h.2];exact Gr.refl _⟩
  have hps3:p<s.data.toList.length:=by simpa using hps
  have HSU:Hid (succS code s.data.toList k p=if hb=true then [((k:Int)+1,p+1)] else []):=Lib.hid (by
   rw[succS_at HK.out,HVV.out,if_pos rfl,dif_pos hps3,hhb];rfl)
  clear hhb HHC hps3;go_upto_region 18 with (fail)
  refine region_R (by kernel_rfl) (by kernel_rfl) ?_;refine rv ?_;refine rv ?_ (h:=λW hW=>by have g1:=bc hW hwC e1;go_light;go_simp<;>rfl);(iterate 5 refine rv ?_);refine rv ?_ (h:=λW hW=>by have g1:=bc hW hqC q3;go_light;go_simp<;>rfl);(iterate 2 refine rv ?_);refine rv ?_ (h:=λW hW=>by have g1:=bc hW hwC e1;go_light;go_simp<;>rfl);refine rv ?_;refine rc (.bool hb) (λW hW=>HHH.out W) ?_;refine rv ?_;refine r_nil ?_;intro w8 hw8;have HI8:=Lib.hid (HIC.out.gr' hw8);have HS8:=Lib.hid (HSV4.out.gr hw8);have e0b:=bc hw8 hwC e0;have e1b:=bc hw8 hwC e1;have e2b:=bc hw8 hwC e2;clear e0 e1 e2 q0 q1 q2 q3 hw8 b0 b1 HHH hps;cases hb with
  | true=>
   have hv0:=own_grU HI8.out.own (Gr.alloc (Gr.refl w8) (.cells ([.int .i64 ((k:Int)+1), .int .i64 ((p:Int)+1), .slice (some ⟨a,0,none⟩) ms cs]:List Value).toArray 199));have hvl:=HI8.out.own.lt;have hrx:Rd (w8.alloc (.cells ([.int .i64 ((k:Int)+1), .int .i64 ((p:Int)+1), .slice (some ⟨a,0,none⟩) ms cs]:List Value).toArray 199)) 3 (some ⟨w8.heap.size,0,none⟩) 1 ([.int .i64 ((k:Int)+1), .int .i64 ((p:Int)+1), .slice (some ⟨a,0,none⟩) ms cs]:List Value):=Rd.newU (W:=w8) rfl 199 ([.int .i64 ((k:Int)+1), .int .i64 ((p:Int)+1), .slice (some ⟨a,0,none⟩) ms cs]:List Value) rfl;have hszC:=HI8.out.hB.2;go_wp2_with (at_builtin;refine wpList_append_rd rfl (.tmp 116) (.tmp 126) 200 rfl (B1+1) 199 i0 _ 3 40 Tryz.underlying200 hi0 hz0 hz1 hz2 rfl (by decide) _ _ _ rfl hv0 (some ⟨w8.heap.size,0,none⟩) 1 _ [.int .i64 ((k:Int)+1), .int .i64 ((p:Int)+1), .slice (some ⟨a,0,none⟩) ms cs] rfl hrx (by simp[Value.oneCell']) (by unfold maxLen;omega) (by omega) (by simp;omega) ?_;intro v9 w2 hown2 hgr2 hat2);have I2:=HI8.out.push (Nat.le_refl _) (news:=[⟨(k:Int)+1,p+1, .slice (some ⟨a,0,none⟩) ms cs⟩]) (λz hz=>by simp only[List.mem_cons,List.not_mem_nil,or_false] at hz;rcases hz with rfl<;>exact HS8.out) (by simpa [wyc] using hown2) hgr2 hat2;have HF:=Lib.hid (I2.fin (m:=1) (by rw[List.map_append];exact HVis.out _ (by rw[HVV.out];simp) (by rw[HSU.out];rfl)) Hlen.out HUV.out Hmeas.out (by rw[List.length_append];rfl) (by decide));clear hv0 hvl hgr2 hat2 hrx hown2 I2;go_wp2;exact HQ.out _ _ HF.out.1 HF.out.2 _ rfl
  | false=>
   have HF:=Lib.hid (HI8.out.fin (m:=0) (by have:=HVis.out [] (by rw[HVV.out];simp[*]) (by rw[HSU.out];rfl);rwa [List.append_nil] at this) Hlen.out HUV.out Hmeas.out rfl (by decide));go_wp2;exact HQ.out _ _ HF.out.1 HF.out.2 _ rfl
 ·have hdec:decide ((p:Int)<(s.size:Int))=false:=decide_eq_false (by omega);have HSU:Hid (succS code s.data.toList k p=[]):=Lib.hid (by
   rw[succS_at HK.out,HVV.out,if_pos rfl,dif_neg (by simpa using hps)])
  go_upto_region 18 with (fail)
  refine region_R (by kernel_rfl) (by kernel_rfl) ?_;refine rv ?_;refine rv ?_ (h:=λW hW=>by have g1:=bc hW hwC e1;go_light;go_simp<;>rfl);(iterate 4 refine rv ?_);(iterate 7 refine rs ?_);refine rv ?_;refine r_nil ?_;intro w8 hw8;have HI8:=Lib.hid (HIC.out.gr' hw8);clear e0 e1 e2 q0 q1 q2 q3 hw8 b0 b1 hps;have HF:=Lib.hid (HI8.out.fin (m:=0) (by have:=HVis.out [] (by rw[HVV.out];simp[*]) (by rw[HSU.out]);rwa [List.append_nil] at this) Hlen.out HUV.out Hmeas.out rfl (by decide));go_wp2;exact HQ.out _ _ HF.out.1 HF.out.2 _ rfl
end
section
variable {G n cA B1 N k p ms cs a g cv Bw Bq M i:Nat} {A:Option Addr} {code:List In} {s:ByteArray} {w wr wC:World} {op x y:Int} {ps:List UInt8} {σ:Nat->Bool} {T0:List Wy} {Q:Exit->Act->World->Prop} {c u:Nat->Value}
theorem arm_4 (H:ArmH G n cA B1 N k p ms cs a g cv Bw Bq M i A code s w wr wC 4 x y ps σ T0 Q c) (hc:u 159= .bool true):(condR 159).wp Tryz.prog Q ⟨frW c u s w.heap.size (.slice (some ⟨g,0,none⟩) T0.length cv) Bw Bq 4,[]⟩ wC:=by
 obtain ⟨HK,HVV,HPS,HVis,HFND,Hlen,HUV,Hmeas,HIC,HSV4,e0,e1,e2,q0,q1,q2,q3,hwC,hqC,hBw,hgw,hTi,hcvi,hcvm,hpi,hp,hs,hkn,HQ,HR⟩:=H;unfold frW;rw[hc];clear hc;obtain ⟨j0,hj0,jz0,jz1,jz2⟩:=info_parts info_int12;obtain ⟨i0,hi0,hz0,hz1,hz2⟩:=info_parts info_way12;have hhz:w.heap.size<wC.heap.size:=Nat.lt_trans HIC.out.hB.1 HIC.out.hB.2;obtain ⟨b0,b1⟩:=And.intro HIC.out.b0 HIC.out.b1
 conv=>arg 2;whnf
 obtain ⟨zs,hzl,hm0,hm3,hzr⟩:=HSV4.out.rd;have hrx:=hzr.gr (Gr.alloc (Gr.refl wC) (.cells #[] 3));have hv0:(wC.alloc (.cells #[] 3)).ownsRow wC.heap.size 3 1 (.slice (some ⟨wC.heap.size,0,none⟩) 0 0) 0 []:=World.ownsRow_lit wC #[] 0 (Nat.le_refl _) (Nat.zero_le _) rfl;have hmi:(ms:Int)<=3000:=by omega
 have hszC:=HIC.out.hB.2;go_upto_region 26 with (at_builtin;refine wpList_append_rd rfl (.tmp 161) (.tmp 163) 90 rfl wC.heap.size 3 j0 _ 1 8 Tryz.underlying90 hj0 jz0 jz1 jz2 rfl (by decide) _ _ _ rfl hv0 (some ⟨a,0,none⟩) ms _ (icl zs) rfl hrx (icl_one zs) (by unfold maxLen;omega) (by omega) (by simp) ?_;intro v3 w3 hown3 hgr3 hat3)
 rw[Nat.zero_add,List.nil_append] at hown3;obtain ⟨A3,c3,hv3⟩:=own_form hown3;subst hv3;obtain ⟨b3,rfl,hb3,hb3z,hcells⟩:=own_blockU hown3 hm0;have g3:Gr wC w3:=Gr.grown (Gr.alloc (Gr.refl wC) _) hgr3 (λk hk=>(hv0.lt k hk).1);have HI3:=Lib.hid (HIC.out.gr' g3);have e0b:=bc g3 hwC e0;have e1b:=bc g3 hwC e1;have q1b:=bc g3 hqC q1;have hbow:some b3≠(Value.slice (some ⟨g,0,none⟩) T0.length cv).ownBlock:=by
  have:=HIC.out.own.lt g rfl;simp[Value.ownBlock];omega
 have HO3:=Lib.hid hown3;have Hc3:=Lib.hid hcells;have hbB:b3≠B1:=by omega
 have hwb3:Bw<b3:=by omega
 clear hv0 hrx hzr hgr3 hat3 hown3 hcells e0 e1 e2 q0 q1 q2 q3 b0 b1;by_cases hx:0<=x/\x<(ms:Int)
 ·obtain ⟨X,rfl⟩:∃X:Nat,x=X:=⟨x.toNat,by omega⟩
  have hX:X<ms:=by omega
  have hXi:(X:Int)<(ms:Int):=by omega
  have cX:w3.cell? ⟨b3,X,none⟩=some (.int .i64 (zs[X]'(by omega))):=Hc3.out X _ (by simp[icl,hzl,hX]);have fX:=HO3.out.frozenAt X;have I4:=HIC.out.gr' (g3.setCell (p:=⟨b3,X,none⟩) hb3 (.int .i64 p));have S4:Svo (w3.setCell ⟨b3,X,none⟩ (.int .i64 p)) B1 (.slice (some ⟨g,0,none⟩) T0.length cv) (.slice (some ⟨b3,0,none⟩) ms c3):=⟨b3,ms,c3,rfl,hm0,hm3,by simpa using hb3z,hbB,hbow,λj hj=>by
   by_cases e:j=X
   ·subst e;exact ⟨p,World.cell?_setCell_same' _ _ _ (by rw[cX];rfl)⟩
   ·refine ⟨zs[j]'(by omega),?_⟩;rw[set_off (w:=w3) b3 e (.int .i64 p)];exact Hc3.out j _ (by simp[icl,hzl,hj])⟩
  have e0c:=(set_oth' (w:=w3) hwb3 X 0 (.int .i64 p)).trans e0b;have e1c:=(set_oth' (w:=w3) hwb3 X 1 (.int .i64 p)).trans e1b;go_upto_region 28 with (fail)
  generalize w3.setCell ⟨b3,X,none⟩ (.int .i64 p)=w4 at I4 S4 e0c e1c ⊢;have HI4:=Lib.hid I4;have HS4:=Lib.hid S4;clear I4 S4 e0b e1b q1b cX fX hx;have hv0:=own_grU HI4.out.own (Gr.alloc (Gr.refl w4) (.cells ([.int .i64 ((k:Int)+1), .int .i64 (p:Int), .slice (some ⟨b3,0,none⟩) ms c3]:List Value).toArray 199));have hvl:=HI4.out.own.lt;have hrx:Rd (w4.alloc (.cells ([.int .i64 ((k:Int)+1), .int .i64 (p:Int), .slice (some ⟨b3,0,none⟩) ms c3]:List Value).toArray 199)) 3 (some ⟨w4.heap.size,0,none⟩) 1 ([.int .i64 ((k:Int)+1), .int .i64 (p:Int), .slice (some ⟨b3,0,none⟩) ms c3]:List Value):=Rd.newU (W:=w4) rfl 199 ([.int .i64 ((k:Int)+1), .int .i64 (p:Int), .slice (some ⟨b3,0,none⟩) ms c3]:List Value) rfl;have hszC:=HI4.out.hB.2;go_wp2_with (at_builtin;refine wpList_append_rd rfl (.tmp 181) (.tmp 189) 200 rfl (B1+1) 199 i0 _ 3 40 Tryz.underlying200 hi0 hz0 hz1 hz2 rfl (by decide) _ _ _ rfl hv0 (some ⟨w4.heap.size,0,none⟩) 1 _ [.int .i64 ((k:Int)+1), .int .i64 (p:Int), .slice (some ⟨b3,0,none⟩) ms c3] rfl hrx (by simp[Value.oneCell']) (by unfold maxLen;omega) (by omega) (by simp;omega) ?_;intro v9 w2 hown2 hgr2 hat2);have I2:=HI4.out.push (Nat.le_refl _) (news:=[⟨(k:Int)+1,p, .slice (some ⟨b3,0,none⟩) ms c3⟩]) (λz hz=>by simp only[List.mem_cons,List.not_mem_nil,or_false] at hz;rcases hz with rfl<;>exact HS4.out) (by simpa [wyc] using hown2) hgr2 hat2;have HF:=Lib.hid (I2.fin (m:=1) (by rw[List.map_append];exact HVis.out _ (by rw[HVV.out];simp) (by rw[succS_at HK.out,HVV.out];simp[Wy.st])) Hlen.out HUV.out Hmeas.out (by rw[List.length_append];rfl) (by decide));clear hv0 hvl hgr2 hat2 hrx hown2 I2;go_wp2;exact HQ.out _ _ HF.out.1 HF.out.2 _ rfl
 ·have S4:Svo w3 B1 (.slice (some ⟨g,0,none⟩) T0.length cv) (.slice (some ⟨b3,0,none⟩) ms c3):=⟨b3,ms,c3,rfl,hm0,hm3,hb3z,hbB,hbow,λj hj=>⟨zs[j]'(by omega),Hc3.out j _ (by simp[icl,hzl,hj])⟩⟩
  have HS4:=Lib.hid S4;clear S4;by_cases hx0:0<=x
  ·have hx1:¬x<(ms:Int):=λh=>hx ⟨hx0,h⟩;clear hx;go_upto_region 28 with (fail)
   have hv0:=own_grU HI3.out.own (Gr.alloc (Gr.refl w3) (.cells ([.int .i64 ((k:Int)+1), .int .i64 (p:Int), .slice (some ⟨b3,0,none⟩) ms c3]:List Value).toArray 199));have hvl:=HI3.out.own.lt;have hrx:Rd (w3.alloc (.cells ([.int .i64 ((k:Int)+1), .int .i64 (p:Int), .slice (some ⟨b3,0,none⟩) ms c3]:List Value).toArray 199)) 3 (some ⟨w3.heap.size,0,none⟩) 1 ([.int .i64 ((k:Int)+1), .int .i64 (p:Int), .slice (some ⟨b3,0,none⟩) ms c3]:List Value):=Rd.newU (W:=w3) rfl 199 ([.int .i64 ((k:Int)+1), .int .i64 (p:Int), .slice (some ⟨b3,0,none⟩) ms c3]:List Value) rfl;have hszC:=HI3.out.hB.2;go_wp2_with (at_builtin;refine wpList_append_rd rfl (.tmp 181) (.tmp 189) 200 rfl (B1+1) 199 i0 _ 3 40 Tryz.underlying200 hi0 hz0 hz1 hz2 rfl (by decide) _ _ _ rfl hv0 (some ⟨w3.heap.size,0,none⟩) 1 _ [.int .i64 ((k:Int)+1), .int .i64 (p:Int), .slice (some ⟨b3,0,none⟩) ms c3] rfl hrx (by simp[Value.oneCell']) (by unfold maxLen;omega) (by omega) (by simp;omega) ?_;intro v9 w2 hown2 hgr2 hat2);have I2:=HI3.out.push (Nat.le_refl _) (news:=[⟨(k:Int)+1,p, .slice (some ⟨b3,0,none⟩) ms c3⟩]) (λz hz=>by simp only[List.mem_cons,List.not_mem_nil,or_false] at hz;rcases hz with rfl<;>exact HS4.out) (by simpa [wyc] using hown2) hgr2 hat2;have HF:=Lib.hid (I2.fin (m:=1) (by rw[List.map_append];exact HVis.out _ (by rw[HVV.out];simp) (by rw[succS_at HK.out,HVV.out];simp[Wy.st])) Hlen.out HUV.out Hmeas.out (by rw[List.length_append];rfl) (by decide));clear hv0 hvl hgr2 hat2 hrx hown2 I2;go_wp2;exact HQ.out _ _ HF.out.1 HF.out.2 _ rfl
  ·clear hx;go_upto_region 28 with (fail)
   have hv0:=own_grU HI3.out.own (Gr.alloc (Gr.refl w3) (.cells ([.int .i64 ((k:Int)+1), .int .i64 (p:Int), .slice (some ⟨b3,0,none⟩) ms c3]:List Value).toArray 199));have hvl:=HI3.out.own.lt;have hrx:Rd (w3.alloc (.cells ([.int .i64 ((k:Int)+1), .int .i64 (p:Int), .slice (some ⟨b3,0,none⟩) ms c3]:List Value).toArray 199)) 3 (some ⟨w3.heap.size,0,none⟩) 1 ([.int .i64 ((k:Int)+1), .int .i64 (p:Int), .slice (some ⟨b3,0,none⟩) ms c3]:List Value):=Rd.newU (W:=w3) rfl 199 ([.int .i64 ((k:Int)+1), .int .i64 (p:Int), .slice (some ⟨b3,0,none⟩) ms c3]:List Value) rfl;have hszC:=HI3.out.hB.2;go_wp2_with (at_builtin;refine wpList_append_rd rfl (.tmp 181) (.tmp 189) 200 rfl (B1+1) 199 i0 _ 3 40 Tryz.underlying200 hi0 hz0 hz1 hz2 rfl (by decide) _ _ _ rfl hv0 (some ⟨w3.heap.size,0,none⟩) 1 _ [.int .i64 ((k:Int)+1), .int .i64 (p:Int), .slice (some ⟨b3,0,none⟩) ms c3] rfl hrx (by simp[Value.oneCell']) (by unfold maxLen;omega) (by omega) (by simp;omega) ?_;intro v9 w2 hown2 hgr2 hat2);have I2:=HI3.out.push (Nat.le_refl _) (news:=[⟨(k:Int)+1,p, .slice (some ⟨b3,0,none⟩) ms c3⟩]) (λz hz=>by simp only[List.mem_cons,List.not_mem_nil,or_false] at hz;rcases hz with rfl<;>exact HS4.out) (by simpa [wyc] using hown2) hgr2 hat2;have HF:=Lib.hid (I2.fin (m:=1) (by rw[List.map_append];exact HVis.out _ (by rw[HVV.out];simp) (by rw[succS_at HK.out,HVV.out];simp[Wy.st])) Hlen.out HUV.out Hmeas.out (by rw[List.length_append];rfl) (by decide));clear hv0 hvl hgr2 hat2 hrx hown2 I2;go_wp2;exact HQ.out _ _ HF.out.1 HF.out.2 _ rfl
end
section
variable {G n cA B1 N k p ms cs a g cv Bw Bq M i:Nat} {A:Option Addr} {code:List In} {s:ByteArray} {w wr wC:World} {op x y:Int} {ps:List UInt8} {σ:Nat->Bool} {T0:List Wy} {Q:Exit->Act->World->Prop} {c u:Nat->Value}
theorem arm_2 (H:ArmH G n cA B1 N k p ms cs a g cv Bw Bq M i A code s w wr wC 2 x y ps σ T0 Q c) (hc:u 128= .bool true):(condR 128).wp Tryz.prog Q ⟨frW c u s w.heap.size (.slice (some ⟨g,0,none⟩) T0.length cv) Bw Bq 2,[]⟩ wC:=by
 obtain ⟨HK,HVV,HPS,HVis,HFND,Hlen,HUV,Hmeas,HIC,HSV4,e0,e1,e2,q0,q1,q2,q3,hwC,hqC,hBw,hgw,hTi,hcvi,hcvm,hpi,hp,hs,hkn,HQ,HR⟩:=H;unfold frW;rw[hc];clear hc;obtain ⟨j0,hj0,jz0,jz1,jz2⟩:=info_parts info_int12;obtain ⟨i0,hi0,hz0,hz1,hz2⟩:=info_parts info_way12;have hhz:w.heap.size<wC.heap.size:=Nat.lt_trans HIC.out.hB.1 HIC.out.hB.2;obtain ⟨b0,b1⟩:=And.intro HIC.out.b0 HIC.out.b1
 conv=>arg 2;whnf
 have hv0:=own_grU HIC.out.own (Gr.alloc (Gr.refl wC) (.cells ([.int .i64 y, .int .i64 (p:Int), .slice (some ⟨a,0,none⟩) ms cs, .int .i64 x, .int .i64 (p:Int), .slice (some ⟨a,0,none⟩) ms cs]:List Value).toArray 199));have hvl:=HIC.out.own.lt;have hrx:Rd (wC.alloc (.cells ([.int .i64 y, .int .i64 (p:Int), .slice (some ⟨a,0,none⟩) ms cs, .int .i64 x, .int .i64 (p:Int), .slice (some ⟨a,0,none⟩) ms cs]:List Value).toArray 199)) 3 (some ⟨wC.heap.size,0,none⟩) 2 ([.int .i64 y, .int .i64 (p:Int), .slice (some ⟨a,0,none⟩) ms cs, .int .i64 x, .int .i64 (p:Int), .slice (some ⟨a,0,none⟩) ms cs]:List Value):=Rd.newU (W:=wC) rfl 199 ([.int .i64 y, .int .i64 (p:Int), .slice (some ⟨a,0,none⟩) ms cs, .int .i64 x, .int .i64 (p:Int), .slice (some ⟨a,0,none⟩) ms cs]:List Value) rfl;have hszC:=HIC.out.hB.2;go_wp2_with (at_builtin;refine wpList_append_rd rfl (.tmp 130) (.tmp 145) 200 rfl (B1+1) 199 i0 _ 3 40 Tryz.underlying200 hi0 hz0 hz1 hz2 rfl (by decide) _ _ _ rfl hv0 (some ⟨wC.heap.size,0,none⟩) 2 _ [.int .i64 y, .int .i64 (p:Int), .slice (some ⟨a,0,none⟩) ms cs, .int .i64 x, .int .i64 (p:Int), .slice (some ⟨a,0,none⟩) ms cs] rfl hrx (by simp[Value.oneCell']) (by unfold maxLen;omega) (by omega) (by simp;omega) ?_;intro v9 w2 hown2 hgr2 hat2);have I2:=HIC.out.push (Nat.le_refl _) (news:=[⟨y,p, .slice (some ⟨a,0,none⟩) ms cs⟩,⟨x,p, .slice (some ⟨a,0,none⟩) ms cs⟩]) (λz hz=>by simp only[List.mem_cons,List.not_mem_nil,or_false] at hz;rcases hz with rfl|rfl<;>exact HSV4.out) (by simpa [wyc] using hown2) hgr2 hat2;have HF:=Lib.hid (I2.fin (m:=2) (by rw[List.map_append];exact HVis.out _ (by rw[HVV.out];simp) (by rw[succS_at HK.out,HVV.out];simp[Wy.st])) Hlen.out HUV.out Hmeas.out (by rw[List.length_append];rfl) (by decide));clear hv0 hvl hgr2 hat2 hrx hown2 I2;go_wp2;exact HQ.out _ _ HF.out.1 HF.out.2 _ rfl
theorem arm_3 (H:ArmH G n cA B1 N k p ms cs a g cv Bw Bq M i A code s w wr wC 3 x y ps σ T0 Q c) (hc:u 147= .bool true):(condR 147).wp Tryz.prog Q ⟨frW c u s w.heap.size (.slice (some ⟨g,0,none⟩) T0.length cv) Bw Bq 3,[]⟩ wC:=by
 obtain ⟨HK,HVV,HPS,HVis,HFND,Hlen,HUV,Hmeas,HIC,HSV4,e0,e1,e2,q0,q1,q2,q3,hwC,hqC,hBw,hgw,hTi,hcvi,hcvm,hpi,hp,hs,hkn,HQ,HR⟩:=H;unfold frW;rw[hc];clear hc;obtain ⟨j0,hj0,jz0,jz1,jz2⟩:=info_parts info_int12;obtain ⟨i0,hi0,hz0,hz1,hz2⟩:=info_parts info_way12;have hhz:w.heap.size<wC.heap.size:=Nat.lt_trans HIC.out.hB.1 HIC.out.hB.2;obtain ⟨b0,b1⟩:=And.intro HIC.out.b0 HIC.out.b1
 conv=>arg 2;whnf
 have hv0:=own_grU HIC.out.own (Gr.alloc (Gr.refl wC) (.cells ([.int .i64 x, .int .i64 (p:Int), .slice (some ⟨a,0,none⟩) ms cs]:List Value).toArray 199));have hvl:=HIC.out.own.lt;have hrx:Rd (wC.alloc (.cells ([.int .i64 x, .int .i64 (p:Int), .slice (some ⟨a,0,none⟩) ms cs]:List Value).toArray 199)) 3 (some ⟨wC.heap.size,0,none⟩) 1 ([.int .i64 x, .int .i64 (p:Int), .slice (some ⟨a,0,none⟩) ms cs]:List Value):=Rd.newU (W:=wC) rfl 199 ([.int .i64 x, .int .i64 (p:Int), .slice (some ⟨a,0,none⟩) ms cs]:List Value) rfl;have hszC:=HIC.out.hB.2;go_wp2_with (at_builtin;refine wpList_append_rd rfl (.tmp 149) (.tmp 157) 200 rfl (B1+1) 199 i0 _ 3 40 Tryz.underlying200 hi0 hz0 hz1 hz2 rfl (by decide) _ _ _ rfl hv0 (some ⟨wC.heap.size,0,none⟩) 1 _ [.int .i64 x, .int .i64 (p:Int), .slice (some ⟨a,0,none⟩) ms cs] rfl hrx (by simp[Value.oneCell']) (by unfold maxLen;omega) (by omega) (by simp;omega) ?_;intro v9 w2 hown2 hgr2 hat2);have I2:=HIC.out.push (Nat.le_refl _) (news:=[⟨x,p, .slice (some ⟨a,0,none⟩) ms cs⟩]) (λz hz=>by simp only[List.mem_cons,List.not_mem_nil,or_false] at hz;rcases hz with rfl<;>exact HSV4.out) (by simpa [wyc] using hown2) hgr2 hat2;have HF:=Lib.hid (I2.fin (m:=1) (by rw[List.map_append];exact HVis.out _ (by rw[HVV.out];simp) (by rw[succS_at HK.out,HVV.out];simp[Wy.st])) Hlen.out HUV.out Hmeas.out (by rw[List.length_append];rfl) (by decide));clear hv0 hvl hgr2 hat2 hrx hown2 I2;go_wp2;exact HQ.out _ _ HF.out.1 HF.out.2 _ rfl
theorem arm_7 (H:ArmH G n cA B1 N k p ms cs a g cv Bw Bq M i A code s w wr wC 7 x y ps σ T0 Q c) (hc:u 96= .bool true):(condR 96).wp Tryz.prog Q ⟨frW c u s w.heap.size (.slice (some ⟨g,0,none⟩) T0.length cv) Bw Bq 7,[]⟩ wC:=by
 obtain ⟨HK,HVV,HPS,HVis,HFND,Hlen,HUV,Hmeas,HIC,HSV4,e0,e1,e2,q0,q1,q2,q3,hwC,hqC,hBw,hgw,hTi,hcvi,hcvm,hpi,hp,hs,hkn,HQ,HR⟩:=H;unfold frW;rw[hc];clear hc;obtain ⟨j0,hj0,jz0,jz1,jz2⟩:=info_parts info_int12;obtain ⟨i0,hi0,hz0,hz1,hz2⟩:=info_parts info_way12;have hhz:w.heap.size<wC.heap.size:=Nat.lt_trans HIC.out.hB.1 HIC.out.hB.2;obtain ⟨b0,b1⟩:=And.intro HIC.out.b0 HIC.out.b1
 conv=>arg 2;whnf
 go_wp2;exact HR.out (by first|trivial|rfl) _ rfl
end
section
variable {G n cA B1 N k p ms cs a g cv Bw Bq M i:Nat} {A:Option Addr} {code:List In} {s:ByteArray} {w wr wC:World} {op x y:Int} {ps:List UInt8} {σ:Nat->Bool} {T0:List Wy} {Q:Exit->Act->World->Prop} {c u:Nat->Value}
theorem arm_5 (H:ArmH G n cA B1 N k p ms cs a g cv Bw Bq M i A code s w wr wC 5 x y ps σ T0 Q c) (hc:u 191= .bool true):(condR 191).wp Tryz.prog Q ⟨frW c u s w.heap.size (.slice (some ⟨g,0,none⟩) T0.length cv) Bw Bq 5,[]⟩ wC:=by
 obtain ⟨HK,HVV,HPS,HVis,HFND,Hlen,HUV,Hmeas,HIC,HSV4,e0,e1,e2,q0,q1,q2,q3,hwC,hqC,hBw,hgw,hTi,hcvi,hcvm,hpi,hp,hs,hkn,HQ,HR⟩:=H;unfold frW;rw[hc];clear hc;obtain ⟨j0,hj0,jz0,jz1,jz2⟩:=info_parts info_int12;obtain ⟨i0,hi0,hz0,hz1,hz2⟩:=info_parts info_way12;have hhz:w.heap.size<wC.heap.size:=Nat.lt_trans HIC.out.hB.1 HIC.out.hB.2;obtain ⟨b0,b1⟩:=And.intro HIC.out.b0 HIC.out.b1
 conv=>arg 2;whnf
 by_cases hp0:p=0
 ·have z1:((p:Int)==0)=true:=by rw[hp0];rfl
  have HP0:=Lib.hid hp0;clear hp0;have hv0:=own_grU HIC.out.own (Gr.alloc (Gr.refl wC) (.cells ([.int .i64 ((k:Int)+1), .int .i64 (p:Int), .slice (some ⟨a,0,none⟩) ms cs]:List Value).toArray 199));have hvl:=HIC.out.own.lt;have hrx:Rd (wC.alloc (.cells ([.int .i64 ((k:Int)+1), .int .i64 (p:Int), .slice (some ⟨a,0,none⟩) ms cs]:List Value).toArray 199)) 3 (some ⟨wC.heap.size,0,none⟩) 1 ([.int .i64 ((k:Int)+1), .int .i64 (p:Int), .slice (some ⟨a,0,none⟩) ms cs]:List Value):=Rd.newU (W:=wC) rfl 199 ([.int .i64 ((k:Int)+1), .int .i64 (p:Int), .slice (some ⟨a,0,none⟩) ms cs]:List Value) rfl;have hszC:=HIC.out.hB.2;go_wp2_with (at_builtin;refine wpList_append_rd rfl (.tmp 196) (.tmp 205) 200 rfl (B1+1) 199 i0 _ 3 40 Tryz.underlying200 hi0 hz0 hz1 hz2 rfl (by decide) _ _ _ rfl hv0 (some ⟨wC.heap.size,0,none⟩) 1 _ [.int .i64 ((k:Int)+1), .int .i64 (p:Int), .slice (some ⟨a,0,none⟩) ms cs] rfl hrx (by simp[Value.oneCell']) (by unfold maxLen;omega) (by omega) (by simp;omega) ?_;intro v9 w2 hown2 hgr2 hat2);have I2:=HIC.out.push (Nat.le_refl _) (news:=[⟨(k:Int)+1,p, .slice (some ⟨a,0,none⟩) ms cs⟩]) (λz hz=>by simp only[List.mem_cons,List.not_mem_nil,or_false] at hz;rcases hz with rfl<;>exact HSV4.out) (by simpa [wyc] using hown2) hgr2 hat2;have HF:=Lib.hid (I2.fin (m:=1) (by rw[List.map_append];exact HVis.out _ (by rw[HVV.out];simp) (by rw[succS_at HK.out,HVV.out];simp[Wy.st,HP0.out])) Hlen.out HUV.out Hmeas.out (by rw[List.length_append];rfl) (by decide));clear hv0 hvl hgr2 hat2 hrx hown2 I2;go_wp2;exact HQ.out _ _ HF.out.1 HF.out.2 _ rfl
 ·have z1:((p:Int)==0)=false:=beq_eq_false_iff_ne.2 (by omega);have HF:=Lib.hid (HIC.out.fin (m:=0) (by have:=HVis.out [] (by rw[HVV.out];simp[*]) (by rw[succS_at HK.out,HVV.out];simp[hp0]);rwa [List.append_nil] at this) Hlen.out HUV.out Hmeas.out rfl (by decide));go_wp2;exact HQ.out _ _ HF.out.1 HF.out.2 _ rfl
theorem arm_6 (H:ArmH G n cA B1 N k p ms cs a g cv Bw Bq M i A code s w wr wC 6 x y ps σ T0 Q c) (hc:u 207= .bool true):(condR 207).wp Tryz.prog Q ⟨frW c u s w.heap.size (.slice (some ⟨g,0,none⟩) T0.length cv) Bw Bq 6,[]⟩ wC:=by
 obtain ⟨HK,HVV,HPS,HVis,HFND,Hlen,HUV,Hmeas,HIC,HSV4,e0,e1,e2,q0,q1,q2,q3,hwC,hqC,hBw,hgw,hTi,hcvi,hcvm,hpi,hp,hs,hkn,HQ,HR⟩:=H;unfold frW;rw[hc];clear hc;obtain ⟨j0,hj0,jz0,jz1,jz2⟩:=info_parts info_int12;obtain ⟨i0,hi0,hz0,hz1,hz2⟩:=info_parts info_way12;have hhz:w.heap.size<wC.heap.size:=Nat.lt_trans HIC.out.hB.1 HIC.out.hB.2;obtain ⟨b0,b1⟩:=And.intro HIC.out.b0 HIC.out.b1
 conv=>arg 2;whnf
 by_cases hpl:p=s.size
 ·have z1:((p:Int)==(s.size:Int))=true:=by rw[hpl];simp
  have HP0:=Lib.hid hpl;clear hpl;have hv0:=own_grU HIC.out.own (Gr.alloc (Gr.refl wC) (.cells ([.int .i64 ((k:Int)+1), .int .i64 (p:Int), .slice (some ⟨a,0,none⟩) ms cs]:List Value).toArray 199));have hvl:=HIC.out.own.lt;have hrx:Rd (wC.alloc (.cells ([.int .i64 ((k:Int)+1), .int .i64 (p:Int), .slice (some ⟨a,0,none⟩) ms cs]:List Value).toArray 199)) 3 (some ⟨wC.heap.size,0,none⟩) 1 ([.int .i64 ((k:Int)+1), .int .i64 (p:Int), .slice (some ⟨a,0,none⟩) ms cs]:List Value):=Rd.newU (W:=wC) rfl 199 ([.int .i64 ((k:Int)+1), .int .i64 (p:Int), .slice (some ⟨a,0,none⟩) ms cs]:List Value) rfl;have hszC:=HIC.out.hB.2;go_wp2_with (at_builtin;refine wpList_append_rd rfl (.tmp 214) (.tmp 223) 200 rfl (B1+1) 199 i0 _ 3 40 Tryz.underlying200 hi0 hz0 hz1 hz2 rfl (by decide) _ _ _ rfl hv0 (some ⟨wC.heap.size,0,none⟩) 1 _ [.int .i64 ((k:Int)+1), .int .i64 (p:Int), .slice (some ⟨a,0,none⟩) ms cs] rfl hrx (by simp[Value.oneCell']) (by unfold maxLen;omega) (by omega) (by simp;omega) ?_;intro v9 w2 hown2 hgr2 hat2);have I2:=HIC.out.push (Nat.le_refl _) (news:=[⟨(k:Int)+1,p, .slice (some ⟨a,0,none⟩) ms cs⟩]) (λz hz=>by simp only[List.mem_cons,List.not_mem_nil,or_false] at hz;rcases hz with rfl<;>exact HSV4.out) (by simpa [wyc] using hown2) hgr2 hat2;have HF:=Lib.hid (I2.fin (m:=1) (by rw[List.map_append];exact HVis.out _ (by rw[HVV.out];simp) (by rw[succS_at HK.out,HVV.out];simp[Wy.st,HP0.out])) Hlen.out HUV.out Hmeas.out (by rw[List.length_append];rfl) (by decide));clear hv0 hvl hgr2 hat2 hrx hown2 I2;go_wp2;exact HQ.out _ _ HF.out.1 HF.out.2 _ rfl
 ·have z1:((p:Int)==(s.size:Int))=false:=beq_eq_false_iff_ne.2 (by omega);have HF:=Lib.hid (HIC.out.fin (m:=0) (by have:=HVis.out [] (by rw[HVV.out];simp[*]) (by rw[succS_at HK.out,HVV.out];simp[hpl]);rwa [List.append_nil] at this) Hlen.out HUV.out Hmeas.out rfl (by decide));go_wp2;exact HQ.out _ _ HF.out.1 HF.out.2 _ rfl
end
section
variable {G n cA B1 N k p ms cs a g cv Bw Bq M i:Nat} {A:Option Addr} {code:List In} {s:ByteArray} {w wr wC:World} {op x y:Int} {ps:List UInt8} {σ:Nat->Bool} {T0:List Wy} {Q:Exit->Act->World->Prop} {c u:Nat->Value}
theorem sw_6 (H:ArmH G n cA B1 N k p ms cs a g cv Bw Bq M i A code s w wr wC op x y ps σ T0 Q c) (hc:u 207= .bool (op==6)) (o7:op≠7) (o1:op≠1) (o2:op≠2) (o3:op≠3) (o4:op≠4) (o5:op≠5):(condR 207).wp Tryz.prog Q ⟨frW c u s w.heap.size (.slice (some ⟨g,0,none⟩) T0.length cv) Bw Bq op,[]⟩ wC:=by
 by_cases oz:op=6
 ·subst oz;exact arm_6 H hc
 ·have cz:(op==6)=false:=beq_eq_false_iff_ne.2 oz;have H2:=H;obtain ⟨HK,HVV,HPS,HVis,HFND,Hlen,HUV,Hmeas,HIC,HSV4,e0,e1,e2,q0,q1,q2,q3,hwC,hqC,hBw,hgw,hTi,hcvi,hcvm,hpi,hp,hs,hkn,HQ,HR⟩:=H2;obtain ⟨j0,hj0,jz0,jz1,jz2⟩:=info_parts info_int12;obtain ⟨i0,hi0,hz0,hz1,hz2⟩:=info_parts info_way12;have hhz:w.heap.size<wC.heap.size:=Nat.lt_trans HIC.out.hB.1 HIC.out.hB.2;obtain ⟨b0,b1⟩:=And.intro HIC.out.b0 HIC.out.b1;unfold frW;rw[hc,cz];clear hc cz
  conv=>arg 2;whnf
  have HF:=Lib.hid (HIC.out.fin (m:=0) (by have:=HVis.out [] (by rw[HVV.out];simp[*]) (by rw[succS_at HK.out,HVV.out];simp[o1,o2,o3,o4,o5,oz]);rwa [List.append_nil] at this) Hlen.out HUV.out Hmeas.out rfl (by decide));go_wp2;exact HQ.out _ _ HF.out.1 HF.out.2 _ rfl
theorem sw_5 (H:ArmH G n cA B1 N k p ms cs a g cv Bw Bq M i A code s w wr wC op x y ps σ T0 Q c) (hc:u 191= .bool (op==5)) (o7:op≠7) (o1:op≠1) (o2:op≠2) (o3:op≠3) (o4:op≠4):(condR 191).wp Tryz.prog Q ⟨frW c u s w.heap.size (.slice (some ⟨g,0,none⟩) T0.length cv) Bw Bq op,[]⟩ wC:=by
 by_cases oz:op=5
 ·subst oz;exact arm_5 H hc
 ·have cz:(op==5)=false:=beq_eq_false_iff_ne.2 oz;have H2:=H;obtain ⟨HK,HVV,HPS,HVis,HFND,Hlen,HUV,Hmeas,HIC,HSV4,e0,e1,e2,q0,q1,q2,q3,hwC,hqC,hBw,hgw,hTi,hcvi,hcvm,hpi,hp,hs,hkn,HQ,HR⟩:=H2;obtain ⟨j0,hj0,jz0,jz1,jz2⟩:=info_parts info_int12;obtain ⟨i0,hi0,hz0,hz1,hz2⟩:=info_parts info_way12;have hhz:w.heap.size<wC.heap.size:=Nat.lt_trans HIC.out.hB.1 HIC.out.hB.2;obtain ⟨b0,b1⟩:=And.intro HIC.out.b0 HIC.out.b1;unfold frW;rw[hc,cz];clear hc cz
  conv=>arg 2;whnf
  go_upto_if 207 with (fail)
  exact useW rfl (sw_6 H rfl o7 o1 o2 o3 o4 oz)
theorem sw_4 (H:ArmH G n cA B1 N k p ms cs a g cv Bw Bq M i A code s w wr wC op x y ps σ T0 Q c) (hc:u 159= .bool (op==4)) (o7:op≠7) (o1:op≠1) (o2:op≠2) (o3:op≠3):(condR 159).wp Tryz.prog Q ⟨frW c u s w.heap.size (.slice (some ⟨g,0,none⟩) T0.length cv) Bw Bq op,[]⟩ wC:=by
 by_cases oz:op=4
 ·subst oz;exact arm_4 H hc
 ·have cz:(op==4)=false:=beq_eq_false_iff_ne.2 oz;have H2:=H;obtain ⟨HK,HVV,HPS,HVis,HFND,Hlen,HUV,Hmeas,HIC,HSV4,e0,e1,e2,q0,q1,q2,q3,hwC,hqC,hBw,hgw,hTi,hcvi,hcvm,hpi,hp,hs,hkn,HQ,HR⟩:=H2;obtain ⟨j0,hj0,jz0,jz1,jz2⟩:=info_parts info_int12;obtain ⟨i0,hi0,hz0,hz1,hz2⟩:=info_parts info_way12;have hhz:w.heap.size<wC.heap.size:=Nat.lt_trans HIC.out.hB.1 HIC.out.hB.2;obtain ⟨b0,b1⟩:=And.intro HIC.out.b0 HIC.out.b1;unfold frW;rw[hc,cz];clear hc cz
  conv=>arg 2;whnf
  go_upto_if 191 with (fail)
  exact useW rfl (sw_5 H rfl o7 o1 o2 o3 oz)
theorem sw_3 (H:ArmH G n cA B1 N k p ms cs a g cv Bw Bq M i A code s w wr wC op x y ps σ T0 Q c) (hc:u 147= .bool (op==3)) (o7:op≠7) (o1:op≠1) (o2:op≠2):(condR 147).wp Tryz.prog Q ⟨frW c u s w.heap.size (.slice (some ⟨g,0,none⟩) T0.length cv) Bw Bq op,[]⟩ wC:=by
 by_cases oz:op=3
 ·subst oz;exact arm_3 H hc
 ·have cz:(op==3)=false:=beq_eq_false_iff_ne.2 oz;have H2:=H;obtain ⟨HK,HVV,HPS,HVis,HFND,Hlen,HUV,Hmeas,HIC,HSV4,e0,e1,e2,q0,q1,q2,q3,hwC,hqC,hBw,hgw,hTi,hcvi,hcvm,hpi,hp,hs,hkn,HQ,HR⟩:=H2;obtain ⟨j0,hj0,jz0,jz1,jz2⟩:=info_parts info_int12;obtain ⟨i0,hi0,hz0,hz1,hz2⟩:=info_parts info_way12;have hhz:w.heap.size<wC.heap.size:=Nat.lt_trans HIC.out.hB.1 HIC.out.hB.2;obtain ⟨b0,b1⟩:=And.intro HIC.out.b0 HIC.out.b1;unfold frW;rw[hc,cz];clear hc cz
  conv=>arg 2;whnf
  go_upto_if 159 with (fail)
  exact useW rfl (sw_4 H rfl o7 o1 o2 oz)
theorem sw_2 (H:ArmH G n cA B1 N k p ms cs a g cv Bw Bq M i A code s w wr wC op x y ps σ T0 Q c) (hc:u 128= .bool (op==2)) (o7:op≠7) (o1:op≠1):(condR 128).wp Tryz.prog Q ⟨frW c u s w.heap.size (.slice (some ⟨g,0,none⟩) T0.length cv) Bw Bq op,[]⟩ wC:=by
 by_cases oz:op=2
 ·subst oz;exact arm_2 H hc
 ·have cz:(op==2)=false:=beq_eq_false_iff_ne.2 oz;have H2:=H;obtain ⟨HK,HVV,HPS,HVis,HFND,Hlen,HUV,Hmeas,HIC,HSV4,e0,e1,e2,q0,q1,q2,q3,hwC,hqC,hBw,hgw,hTi,hcvi,hcvm,hpi,hp,hs,hkn,HQ,HR⟩:=H2;obtain ⟨j0,hj0,jz0,jz1,jz2⟩:=info_parts info_int12;obtain ⟨i0,hi0,hz0,hz1,hz2⟩:=info_parts info_way12;have hhz:w.heap.size<wC.heap.size:=Nat.lt_trans HIC.out.hB.1 HIC.out.hB.2;obtain ⟨b0,b1⟩:=And.intro HIC.out.b0 HIC.out.b1;unfold frW;rw[hc,cz];clear hc cz
  conv=>arg 2;whnf
  go_upto_if 147 with (fail)
  exact useW rfl (sw_3 H rfl o7 o1 oz)
theorem sw_1 (H:ArmH G n cA B1 N k p ms cs a g cv Bw Bq M i A code s w wr wC op x y ps σ T0 Q c) (hc:u 100= .bool (op==1)) (o7:op≠7):(condR 100).wp Tryz.prog Q ⟨frW c u s w.heap.size (.slice (some ⟨g,0,none⟩) T0.length cv) Bw Bq op,[]⟩ wC:=by
 by_cases oz:op=1
 ·subst oz;exact arm_1 H hc
 ·have cz:(op==1)=false:=beq_eq_false_iff_ne.2 oz;have H2:=H;obtain ⟨HK,HVV,HPS,HVis,HFND,Hlen,HUV,Hmeas,HIC,HSV4,e0,e1,e2,q0,q1,q2,q3,hwC,hqC,hBw,hgw,hTi,hcvi,hcvm,hpi,hp,hs,hkn,HQ,HR⟩:=H2;obtain ⟨j0,hj0,jz0,jz1,jz2⟩:=info_parts info_int12;obtain ⟨i0,hi0,hz0,hz1,hz2⟩:=info_parts info_way12;have hhz:w.heap.size<wC.heap.size:=Nat.lt_trans HIC.out.hB.1 HIC.out.hB.2;obtain ⟨b0,b1⟩:=And.intro HIC.out.b0 HIC.out.b1;unfold frW;rw[hc,cz];clear hc cz
  conv=>arg 2;whnf
  go_upto_if 128 with (fail)
  exact useW rfl (sw_2 H rfl o7 oz)
theorem sw_7 (H:ArmH G n cA B1 N k p ms cs a g cv Bw Bq M i A code s w wr wC op x y ps σ T0 Q c) (hc:u 96= .bool (op==7)):(condR 96).wp Tryz.prog Q ⟨frW c u s w.heap.size (.slice (some ⟨g,0,none⟩) T0.length cv) Bw Bq op,[]⟩ wC:=by
 by_cases oz:op=7
 ·subst oz;exact arm_7 H hc
 ·have cz:(op==7)=false:=beq_eq_false_iff_ne.2 oz;have H2:=H;obtain ⟨HK,HVV,HPS,HVis,HFND,Hlen,HUV,Hmeas,HIC,HSV4,e0,e1,e2,q0,q1,q2,q3,hwC,hqC,hBw,hgw,hTi,hcvi,hcvm,hpi,hp,hs,hkn,HQ,HR⟩:=H2;obtain ⟨j0,hj0,jz0,jz1,jz2⟩:=info_parts info_int12;obtain ⟨i0,hi0,hz0,hz1,hz2⟩:=info_parts info_way12;have hhz:w.heap.size<wC.heap.size:=Nat.lt_trans HIC.out.hB.1 HIC.out.hB.2;obtain ⟨b0,b1⟩:=And.intro HIC.out.b0 HIC.out.b1;unfold frW;rw[hc,cz];clear hc cz
  conv=>arg 2;whnf
  go_upto_if 100 with (fail)
  exact useW rfl (sw_1 H rfl oz)
end
theorem rwalk_any (G n cA:Nat) (A:Option Addr) (code:List In) (s:ByteArray) (i:Nat) (hn:n=code.length) (hn2:n<=2000) (hG:G<=1000) (hs:(s.size:Int)<=4096) (hi:i<=s.size) (hps:∀v∈code,v.ps.length<=100000) (w:World) (hr:Ri w A code) :
  Calls Tryz.prog 103 #[.agg #[.int .i64 G, .slice A n cA], .string s, .int .i64 i] w (RetWk (AccS code s.data.toList (· = i)) w):=by
 obtain ⟨j0,hj0,jz0,jz1,jz2⟩:=info_parts info_int12;obtain ⟨i0,hi0,hz0,hz1,hz2⟩:=info_parts info_way12;obtain ⟨L,hL⟩:∃L,L=s.size:=⟨_,rfl⟩
 obtain ⟨N,hN⟩:∃N,N=n*(L+1):=⟨_,rfl⟩
 have hNle:N<=8194000:=by
  rw[hN];exact Nat.le_trans (Nat.mul_le_mul hn2 (by omega:L+1<=4097)) (by decide)
 have hNi:(n:Int)*((s.size:Int)+1)=(N:Int):=by rw[hN,hL];simp
 obtain ⟨V,hV⟩:∃V,V=w.alloc (.cells #[.int .i64 G, .slice A n cA] 98):=⟨_,rfl⟩
 have gV:Gr w V:=by rw[hV];exact Gr.alloc (Gr.refl w) _
 have hzV:w.heap.size<V.heap.size:=by rw[hV];simp
 have b0:V.cell? ⟨w.heap.size,0,none⟩=some (.int .i64 G):=by rw[hV];go_simp
 have b1:V.cell? ⟨w.heap.size,1,none⟩=some (.slice A n cA):=by rw[hV];go_simp
 have HV:=Lib.hid hV;have GV:=Lib.hid gV;have HR:=Lib.hid hr;have HPS:=Lib.hid hps;have HC:=Lib.hid (And.intro hn (And.intro hN hL));obtain ⟨arr,harr,hms⟩:∃arr:Array Value,(∀j,j<N->arr[j]?=some (.bool false))/\∀W,(Instr.makeSlice 197 (.int .i64 (N:Nat)) (.int .i64 (N:Nat))).run Tryz.prog W= .ok (.slice (some ⟨W.heap.size,0,none⟩) N N) (W.alloc (.cells arr 4)):=by
  obtain ⟨k0,hk0,kz0,kz1,kz2⟩:=info_parts info_bool12;refine ⟨madeCells (Value.bool false).cells N,λj hj=>?_,λW=>?_⟩
  ·simp[madeCells,Value.cells,hj,Nat.mod_one]
  ·have:=run_makeSlice (P:=Tryz.prog) (w:=W) 197 4 k0 (.bool false) Tryz.underlying197 hk0 kz0 .i64 .i64 (N:Int) (N:Int) (by omega) (Int.le_refl _) (by rw[kz1];simp;omega) (by rw[kz2];omega) (by omega);rw[kz1,Nat.mul_one,Int.toNat_natCast] at this;exact this
 have Harr:=Lib.hid harr;clear harr;have hwn:wrap64 ((n:Int)*((s.size:Int)+1))=(N:Int):=by rw[hNi];exact IntWalk.wrap64_in (N:Int) (by omega)
 clear hV gV hr hn hN hNi hps;go_enter Tryz.func103,Tryz.ntmps103;go_upto_region 1 with (fail)
 rw[<-HV.out];clear HV;go_wp2
 go_loopw [8,9] (λv k wr=>∃j:Nat,j<=2*G+2/\k= .int .i64 j/\Gr V wr/\wr.ownsRow V.heap.size 3 1 v j (icl (List.replicate j (-1)))) (λ_ k _=>2*G+2-(intOf k).toNat)
 case atStart=>exact ⟨0,Nat.zero_le _,rfl,Gr.refl _,World.ownsRow_nil _ _ _ _⟩
 case round=>
  obtain ⟨j,hj,rfl,hgr,hown⟩:=hrel;have c0:=bc hgr hzV b0;have c1:=bc hgr hzV b1;clear b0 b1;have hGi:(G:Int)<=1000:=by omega
  by_cases hlt:j<2*G+2
  ·have hji:(j:Int)<2*(G:Int)+2:=by omega
   have Hgr:=Lib.hid hgr;have hv0:=own_grU hown (Gr.alloc (Gr.refl wr) (.cells #[.int .i64 (-1)] 3));have hvl:=hown.lt;have hrx:Rd (wr.alloc (.cells #[.int .i64 (-1)] 3)) 1 (some ⟨wr.heap.size,0,none⟩) 1 [.int .i64 (-1)]:=Rd.newU (W:=wr) rfl 3 [.int .i64 (-1)] rfl;have hsz:=hgr.size;clear hown hgr;go_wp2_with (at_builtin;refine wpList_append_rd rfl (.tmp 23) (.tmp 24) 90 rfl V.heap.size 3 j0 _ 1 8 Tryz.underlying90 hj0 jz0 jz1 jz2 rfl (by decide) _ _ _ rfl hv0 (some ⟨wr.heap.size,0,none⟩) 1 _ [.int .i64 (-1)] rfl hrx (by simp[Value.oneCell']) (by unfold maxLen;omega) (by omega) (by simp;omega) ?_;intro v' w2 hown2 hgr2 hat2);have hg2:Gr V w2:=Gr.grown (Gr.alloc Hgr.out _) hgr2 (λk hk=>(hvl k hk).1);have HO:Hid (w2.ownsRow V.heap.size 3 1 v' (j+1) (icl (List.replicate (j+1) (-1)))):=Lib.hid (by rw[List.replicate_succ'];simpa [icl] using hown2);clear hv0 hvl hgr2 hat2 hrx hown2;go_wp2;go_roundw;case rel=>exact ⟨j+1,by omega,by go_num,hg2,HO.out⟩
   case measure=>simp[intOf];omega
  ·have hjj:j=2*G+2:=by omega
   subst hjj;obtain ⟨A1,c1',hv⟩:=own_form hown;subst hv;have HO:=Lib.hid hown;have Hgr:=Lib.hid hgr;clear hown hgr;go_upto_region 8 with (fail)
   obtain ⟨B1,hB1⟩:∃B1,B1=wr.heap.size:=⟨_,rfl⟩
   obtain ⟨W0,hW0⟩:∃W0,W0=(wr.alloc (.cells arr 4)).alloc (.cells #[.int .i64 0, .int .i64 i, .slice A1 (2*G+2) c1'] 199):=⟨_,rfl⟩
   have I0:PrM w w.heap.size G n cA B1 N A W0 (.slice (some ⟨B1+1,0,none⟩) 1 1) [⟨0,i, .slice A1 (2*G+2) c1'⟩] (λ_=>false):=
    pr_start GV.out Hgr.out hzV hB1 hW0 c0 c1 Harr.out hG HO.out
   have J0:PrL code s.data.toList i (λ_=>false) [((0:Int),i)]:=PrL.start (by simpa using hi);rw[<-hW0,<-hB1];try rw[hwn]
   rw[show ((2*G+2:Nat):Int)=2*(G:Int)+2 by omega];have HBB:=Lib.hid hB1;have HU:=Lib.hid (unseen_first N);have K0:RelPr code s.data.toList i w w.heap.size G n cA B1 N A (.slice (some ⟨B1+1,0,none⟩) 1 1) W0:=⟨[⟨0,i, .slice A1 (2*G+2) c1'⟩],λ_=>false,I0,J0,HU.out⟩
   have HK0:=Lib.hid K0;clear hW0 c0 c1 hB1 I0 J0 K0 HU hL hms hj hlt hGi hwn
   go_loopw [11] (RelPr code s.data.toList i w w.heap.size G n cA B1 N A) (λv wq=>3*unseenW B1 N wq+lenV v)
   case atStart=>exact HK0.out
   case round=>
    clear HK0;obtain ⟨T,σ,I,J,hlen⟩:=hrel;rcases List.eq_nil_or_concat T with rfl|⟨T0,x,rfl⟩
    ·obtain ⟨A2,c2,hv⟩:=own_form I.own;subst hv;have HI:=Lib.hid I;have HJ:=Lib.hid J;clear I J;go_wp2;go_ret2;exact ⟨.slice none 0 0,false,rfl,⟨λh=>(by cases h),λh=>absurd h (PrL.done HJ.out)⟩,HI.out.gr⟩
    ·rw[List.concat_eq_append] at I J hlen;obtain ⟨A2,cv,hv⟩:=own_form I.own;rw[List.length_append,List.length_singleton] at hv hlen;subst hv;have hown:=I.own;rw[List.length_append,List.length_singleton] at hown;obtain ⟨g,rfl,hgb,hgz,hcells⟩:=own_blockU hown (Nat.succ_pos _);have htop:=top_cells hcells;have hcv:=own_capP hown;have hcvi:(T0.length:Int)+1<=(cv:Int):=by omega
     have hcvm:(cv:Int)<=9223372036854775807:=by have:=hcv.2;unfold maxLen at this;omega
     clear hcv;have IP:=I.pop;obtain ⟨a,ms,cs,hsv,hm0,hm3,haz,ha1,hag,hac⟩:=I.sv x (List.mem_append_right _ (List.mem_singleton.2 rfl));obtain ⟨pc,p,sv⟩:=x;simp only at hsv htop;subst hsv;obtain ⟨t0,t1,t2⟩:=htop;have hp:p<=s.size:=by
      have:=(J.snd (pc,p) (by simp[Wy.st])).le;simpa using this
     have Hlen:=Lib.hid hlen;have hTl:=tl_le hlen hNle;clear hlen;have hTi:(T0.length:Int)<=16388000:=by omega
     have hpi:(p:Int)<=(s.size:Int):=by omega
     have HJ:Hid (PrL code s.data.toList i σ (T0.map Wy.st++[(pc,p)])):=Lib.hid (by simpa [Wy.st] using J);have Hmeas:=Lib.hid I.unseen;clear hown hcells J hgb;go_upto_region 10 with (fail)
     obtain ⟨wB,hwB⟩:∃wB,wB=wr.alloc (.cells #[.int .i64 pc, .int .i64 p, .slice (some ⟨a,0,none⟩) ms cs] 199):=⟨_,rfl⟩
     have gB:Gr wr wB:=by rw[hwB];exact Gr.alloc (Gr.refl wr) _
     have hzw:wr.heap.size<wB.heap.size:=by rw[hwB];simp
     have e0:wB.cell? ⟨wr.heap.size,0,none⟩=some (.int .i64 pc):=by rw[hwB];go_simp
     have e1:wB.cell? ⟨wr.heap.size,1,none⟩=some (.int .i64 p):=by rw[hwB];go_simp
     have e2:wB.cell? ⟨wr.heap.size,2,none⟩=some (.slice (some ⟨a,0,none⟩) ms cs):=by rw[hwB];go_simp
     have HB1z:=Lib.hid (show B1<wr.heap.size from IP.hB.2);have IB:=IP.gr' gB;have HIB:=Lib.hid IB;obtain ⟨b0,b1⟩:=And.intro IB.b0 IB.b1;have Hseen:=Lib.hid IB.seen;have HSV:Hid (Svo wB B1 (.slice (some ⟨g,0,none⟩) T0.length cv) (.slice (some ⟨a,0,none⟩) ms cs)):=Lib.hid (Svo.gr ⟨a,ms,cs,rfl,hm0,hm3,haz,ha1,hag,hac⟩ gB);have hhz:w.heap.size<wB.heap.size:=Nat.lt_trans IB.hB.1 IB.hB.2;rw[<-hwB];have hBw:B1<wr.heap.size:=HB1z.out;have hgw:g<wr.heap.size:=hgz;generalize wr.heap.size=Bw at *;clear hwB t0 t1 t2 IP IB gB I hac hag ha1 haz hm3 hm0 hgz;go_upto_region 11 with (fail)
     by_cases hpc:InR code pc
     ·obtain ⟨k,rfl⟩:∃k:Nat,pc=k:=⟨pc.toNat,by have:=hpc.1;omega⟩
      have hpcn:k<n:=by have:=hpc.2;rw[HC.out.1];omega
      obtain ⟨M,hMN,hMNi,hMi,HX⟩:=idx_facts s HC.out.2.2 HC.out.2.1 hpcn hp hNle;have HMi:=Lib.hid hMi;clear hMi;have hNi8:(N:Int)<=8194000:=by omega
      have hkn:(k:Int)<(n:Int):=by omega
      have hMp0:(0:Int)<=(M:Int)+(p:Int):=by omega
      have hMp:wrap64 ((M:Int)+(p:Int))=(M:Int)+(p:Int):=IntWalk.wrap64_in ((M:Int)+(p:Int)) (by omega);have hMi:=HMi.out;have hMw:IntKind.i64.wrap ((M:Int)+(p:Int))=(M:Int)+(p:Int):=i64_near hMp0 (near_of hMNi hNi8);obtain ⟨sJ,fJ⟩:=Hseen.out (M+p) hMN;clear hpc;cases hsd:σ (M+p)
      ·rw[hsd] at sJ;have HUV:=Lib.hid (unseen_visit hMN hsd);have HK:Hid (k<code.length):=Lib.hid (by rw[<-HC.out.1];exact hpcn);have HVis:Hid (∀T':List (Int×Nat),(code[k]'HK.out).op≠7->succS code s.data.toList k p=T'->PrL code s.data.toList i (λj=>j==M+p||σ j) (T0.map Wy.st++T')):=Lib.hid λT' h7 e=>by
        have h:=HJ.out.visit HK.out (by simpa using hp) h7;rw[HX.out.2,e] at h;exact h
       have HFND:Hid ((code[k]'HK.out).op=7->AccS code s.data.toList (· = i)):=Lib.hid λh=>HJ.out.found HK.out h;clear hsd;go_upto_region 13 with (fail)
       clear hMp hMi;have IS:=HIB.out.see (Nat.le_refl _) (M+p) hMN;have HSV2:=Lib.hid (HSV.out.see (M+p) (.bool true));have e0':=(set_oth (w:=wB) hBw (M+p) 0 (.bool true)).trans e0;have e1':=(set_oth (w:=wB) hBw (M+p) 1 (.bool true)).trans e1;have e2':=(set_oth (w:=wB) hBw (M+p) 2 (.bool true)).trans e2;have hwS:Bw<(wB.setCell ⟨B1,M+p,none⟩ (.bool true)).heap.size:=by simpa using hzw
       have hhS:w.heap.size<(wB.setCell ⟨B1,M+p,none⟩ (.bool true)).heap.size:=by simpa using hhz
       generalize wB.setCell ⟨B1,M+p,none⟩ (.bool true)=wS at IS HSV2 e0' e1' e2' hwS hhS ⊢;clear sJ fJ e0 e1 e2 b0 b1 HIB HSV Hseen hzw hhz;obtain ⟨b0,b1⟩:=And.intro IS.b0 IS.b1;obtain ⟨ad,rfl,hadlt,d0,d1,d2,d3⟩:=Ri.at (HR.out.gr IS.gr) HK.out;obtain ⟨vi,hvi⟩:∃vi,vi=code[k]'HK.out:=⟨_,rfl⟩
       rw[<-hvi] at d0 d1 d2 d3;obtain ⟨op,x,y,ps⟩:=vi;simp only at d0 d1 d2 d3;have HVV:=Lib.hid hvi.symm;have HIS:=Lib.hid IS;clear hvi IS;go_upto_region 14 with (fail)
       obtain ⟨wC,hwC⟩:∃wC,wC=wS.alloc (.cells #[.int .i64 op, .int .i64 x, .int .i64 y, .string ⟨ps.toArray⟩] 143):=⟨_,rfl⟩
       have gC:Gr wS wC:=by rw[hwC];exact Gr.alloc (Gr.refl wS) _
       have q0:wC.cell? ⟨wS.heap.size,0,none⟩=some (.int .i64 op):=by rw[hwC];go_simp
       have q1:wC.cell? ⟨wS.heap.size,1,none⟩=some (.int .i64 x):=by rw[hwC];go_simp
       have q2:wC.cell? ⟨wS.heap.size,2,none⟩=some (.int .i64 y):=by rw[hwC];go_simp
       have q3:wC.cell? ⟨wS.heap.size,3,none⟩=some (.string ⟨ps.toArray⟩):=by rw[hwC];go_simp
       have hqC:wS.heap.size<wC.heap.size:=by rw[hwC];simp
       rw[<-hwC];have HIC:=Lib.hid (HIS.out.gr' gC);have HSV4:=Lib.hid (HSV2.out.gr gC);have e0:=bc gC hwS e0';have e1:=bc gC hwS e1';have e2:=bc gC hwS e2';have hwC2:Bw<wC.heap.size:=Nat.lt_of_lt_of_le hwS gC.size;generalize wS.heap.size=Bq at hqC q0 q1 q2 q3 ⊢;clear hwC gC e0' e1' e2' hwS hhS d0 d1 d2 d3 hadlt b0 b1 HIS HSV2;have hwC:=hwC2;clear hwC2;obtain ⟨b0,b1⟩:=And.intro HIC.out.b0 HIC.out.b1;have hkn:(k:Int)<2000:=by omega
       have hgB:g<Bw:=hgw;go_upto_if 96 with (fail)
       refine useC rfl (sw_7 ⟨HK,HVV,HPS,HVis,HFND,Hlen,HUV,Hmeas,HIC,HSV4,e0,e1,e2,q0,q1,q2,q3,hwC,hqC,hBw,hgw,hTi,hcvi,hcvm,hpi,hp,hs,hkn,?hq,?hr⟩ rfl);case hq=>
        refine Lib.hid ?_;intro v w2 hrel hmeas t ht;rw[ht];have HF:=Lib.hid (And.intro hrel hmeas);clear hrel hmeas ht;simp only[frW,nth,List.toList_toArray];go_wp2;go_roundw;case rel=>exact HF.out.1
        case measure=>exact HF.out.2
       case hr=>
        refine Lib.hid ?_;intro ho7 t ht;rw[ht];have HO7:=Lib.hid ho7;clear ho7 ht;simp only[frW,putW,nth,List.toList_toArray];go_wp2;go_ret2;exact ⟨_,true,rfl,⟨λ_=>HFND.out (by rw[HVV.out];exact HO7.out),λ_=>rfl⟩,HIC.out.gr⟩
      ·rw[hsd] at sJ;have HF:=Lib.hid (HIB.out.fin0 (HJ.out.skip (λ_=>by rw[HX.out.1];exact hsd)) Hlen.out Hmeas.out);clear hsd;go_wp2;go_roundw;case rel=>exact HF.out.1
       case measure=>exact HF.out.2
     ·have HF:=Lib.hid (HIB.out.fin0 (HJ.out.skip (λh=>absurd h hpc)) Hlen.out Hmeas.out);by_cases hneg:pc<0
      ·clear hpc;go_wp2;go_roundw;case rel=>exact HF.out.1
       case measure=>exact HF.out.2
      ·have hge:(n:Int)<=pc:=by
        rcases Int.lt_or_le pc n with h1|h1
        ·exact absurd ⟨by omega,by rw[<-HC.out.1];exact h1⟩ hpc
        ·exact h1
       clear hpc;go_wp2;go_roundw;case rel=>exact HF.out.1
       case measure=>exact HF.out.2
def RetFd (b:Bool) (w:World) (e:Ending) (w':World):Prop:=∃v,e= .returned (.tuple #[v, .bool b])/\Gr w w'
theorem RetFd.of {b c:Bool} {v:Value} {w w':World} (h:b=c) (g:Gr w w'):RetFd b w (.returned (.tuple #[v, .bool c])) w':=by subst h;exact ⟨v,rfl,g⟩
theorem rfind_any (G n cA:Nat) (A:Option Addr) (code:List In) (s:ByteArray) (hn:n=code.length) (hn2:n<=2000) (hG:G<=1000) (hs:(s.size:Int)<=4096) (hps:∀v∈code,v.ps.length<=100000) (w:World) (hr:Ri w A code) :
  Calls Tryz.prog 74 #[.agg #[.int .i64 G, .slice A n cA], .string s, .int .i64 0] w (RetFd (isC code s.data.toList) w):=by
 obtain ⟨V,hV⟩:∃V,V=w.alloc (.cells #[.int .i64 G, .slice A n cA] 98):=⟨_,rfl⟩
 have gV:Gr w V:=by rw[hV];exact Gr.alloc (Gr.refl w) _
 have hzV:w.heap.size<V.heap.size:=by rw[hV];simp
 have b0:V.cell? ⟨w.heap.size,0,none⟩=some (.int .i64 G):=by rw[hV];go_simp
 have b1:V.cell? ⟨w.heap.size,1,none⟩=some (.slice A n cA):=by rw[hV];go_simp
 have HV:=Lib.hid hV;have GV:=Lib.hid gV;have HR:=Lib.hid (hr.gr gV);have HW:=Lib.hid (λi (hi:i<=s.size) W hW=>rwalk_any G n cA A code s i hn hn2 hG hs hi hps W hW);have hGi:(G:Int)<=1000:=by omega
 have hsl:Hid (s.data.toList.length=s.size):=Lib.hid (by simp);clear hV gV hr hn hps;go_enter Tryz.func74,Tryz.ntmps74;go_upto_region 1 with (fail)
 rw[<-HV.out];clear HV;go_wp2
 go_loopw [8] (λi wr=>∃k:Nat,k<=s.size+1/\i= .int .i64 k/\Gr V wr/\Hid (∀j,j<k->¬AccS code s.data.toList (· = j))) (λi _=>s.size+1-(intOf i).toNat)
 case atStart=>exact ⟨0,Nat.zero_le _,rfl,Gr.refl _,Lib.hid λj h=>absurd h (Nat.not_lt_zero _)⟩
 case round=>
  obtain ⟨k,hk,rfl,hgr,hall⟩:=hrel;have c0:=bc hgr hzV b0;have c1:=bc hgr hzV b1;have Hgr:=Lib.hid hgr;by_cases hlt:k<=s.size
  ·have hki:(k:Int)<=(s.size:Int):=by omega
   have HC:=Lib.hid (HW.out k hlt wr (HR.out.gr hgr));clear b0 b1 hgr;by_cases hacc:AccS code s.data.toList (· = k)
   ·have HY:Hid (isC code s.data.toList=true):=Lib.hid (acc_of (by rw[hsl.out];exact hlt) hacc);have HA:=Lib.hid hacc;clear hacc;go_wp2_with (go_at_call 103;refine HC.out.mono ?_;rintro e w2 ⟨v2,z2,rfl,hz2,g2⟩;obtain rfl:z2=true:=hz2.2 HA.out;have G2:=Lib.hid g2;clear hz2 g2);go_ret2;exact RetFd.of HY.out ((GV.out.trans Hgr.out).trans G2.out)
   ·have HA:=Lib.hid hacc;clear hacc;go_wp2_with (go_at_call 103;refine HC.out.mono ?_;rintro e w2 ⟨v2,z2,rfl,hz2,g2⟩;obtain rfl:z2=false:=Bool.eq_false_iff.2 (λe=>HA.out (hz2.1 e));have G2:=Lib.hid g2;clear hz2 g2);go_roundw;case rel=>exact ⟨k+1,by omega,by go_num,Hgr.out.trans G2.out,Lib.hid λj hj=>by
     rcases Nat.lt_succ_iff_lt_or_eq.1 hj with h|h
     ·exact hall.out j h
     ·rw[h];exact HA.out⟩
    case measure=>simp[intOf];omega
  ·have hgt:¬(k:Int)<=(s.size:Int):=by omega
   have HN:Hid (isC code s.data.toList=false):=Lib.hid (acc_not λi hi=>hall.out i (by rw[hsl.out] at hi;omega));clear b0 b1 hgr;go_wp2;go_ret2;exact RetFd.of HN.out (GV.out.trans Hgr.out)
theorem rpis_any (G n cA:Nat) (A:Option Addr) (code:List In) (s:ByteArray) (hn:n=code.length) (hn2:n<=2000) (hG:G<=1000) (hs:(s.size:Int)<=4096) (hps:∀v∈code,v.ps.length<=100000) (w:World) (hr:Ri w A code) :
  Calls Tryz.prog 46 #[.agg #[.int .i64 G, .slice A n cA], .string s] w λe w'=>e= .returned (.bool (isC code s.data.toList))/\Gr w w':=by
 have HF:=Lib.hid (λW hW=>rfind_any G n cA A code s hn hn2 hG hs hps W hW);have gV:Gr w (w.alloc (.cells #[.int .i64 G, .slice A n cA] 98)):=Gr.alloc (Gr.refl w) _;have HR:=Lib.hid (hr.gr gV);have GV:=Lib.hid gV;clear hr hn gV hps;go_enter Tryz.func46,Tryz.ntmps46;go_wp2_with (go_at_call 74;refine (HF.out _ HR.out).mono ?_;rintro e w2 ⟨v2,rfl,g2⟩;have G2:=Lib.hid g2;clear g2);go_ret;exact ⟨rfl,GV.out.trans G2.out⟩
end Go.Proofs.YtjapddfnpmlifaaGreatDoor
