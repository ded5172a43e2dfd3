import Derived.Test.YtoncapkmaeghfaaGreatRunWhWri
import Derived.Test.YtoncapkmaeghfaaGreatRunVfDoes
set_option linter.all false
set_option maxRecDepth 1000000
set_option maxHeartbeats 12800000
namespace Go.Proofs.YtoncapkmaeghfaaGreat
open Go.RowKit
structure NBl (B0:Nat) (w:World) (b:Nat) (x y:Value):Prop where
 c0:w.cell? ⟨b,0,none⟩=some x
 c1:w.cell? ⟨b,1,none⟩=some y
 f0:w.frozen? ⟨b,0,none⟩=false
 f1:w.frozen? ⟨b,1,none⟩=false
 lo:B0≤b
 lt:b<w.heap.size
theorem NBl.new (w:World) (x y:Value) (T:TypeId):NBl w.heap.size (w.alloc (.cells #[x,y] T)) w.heap.size x y:=⟨by go_simp,by go_simp,by go_simp,by go_simp,Nat.le_refl _,by simp⟩
theorem NBl.gr {B0 b:Nat} {w w':World} {x y:Value} (h:NBl B0 w b x y) (g:Gr w w'):NBl B0 w' b x y:=
 ⟨(Below.cell g (p:=⟨b,0,none⟩) h.lt).trans h.c0,(Below.cell g (p:=⟨b,1,none⟩) h.lt).trans h.c1,(Below.frozen g (p:=⟨b,0,none⟩) h.lt).trans h.f0,(Below.frozen g (p:=⟨b,1,none⟩) h.lt).trans h.f1,h.lo,Nat.lt_of_lt_of_le h.lt g.size⟩
theorem NBl.set {B0 b:Nat} {w:World} {x y:Value} (h:NBl B0 w b x y) (u v:Value) (_:0=0) (_:0=0):NBl B0 ((w.setCell ⟨b,0,none⟩ u).setCell ⟨b,1,none⟩ v) b u v:=
 ⟨(World.cell?_setCell_other _ ⟨b,1,none⟩ ⟨b,0,none⟩ _ (by first|(simp;done)|(simp;omega))).trans (World.cell?_setCell_same' _ _ _ (by rw[h.c0];rfl)),World.cell?_setCell_same' _ _ _ (by rw[World.cell?_setCell_other w ⟨b,0,none⟩ ⟨b,1,none⟩ _ (by first|(simp;done)|(simp;omega)),h.c1];rfl),by rw[World.frozen?_setCell,World.frozen?_setCell];exact h.f0,by rw[World.frozen?_setCell,World.frozen?_setCell];exact h.f1,h.lo,by simpa using h.lt⟩
theorem NBl.other {B0 b b':Nat} {w:World} {x y:Value} (h:NBl B0 w b x y) (u v:Value) (hn:b≠b'):NBl B0 ((w.setCell ⟨b',0,none⟩ u).setCell ⟨b',1,none⟩ v) b x y:=by
 have e:∀o,((w.setCell ⟨b',0,none⟩ u).setCell ⟨b',1,none⟩ v).cell? ⟨b,o,none⟩=w.cell? ⟨b,o,none⟩:=fun o=>by
  rw[World.cell?_setCell_other _ ⟨b',1,none⟩ ⟨b,o,none⟩ _ (by first|(simp[hn];done)|(simp;omega)),World.cell?_setCell_other _ ⟨b',0,none⟩ ⟨b,o,none⟩ _ (by first|(simp[hn];done)|(simp;omega))]
 exact ⟨(e 0).trans h.c0,(e 1).trans h.c1,by rw[World.frozen?_setCell,World.frozen?_setCell];exact h.f0,by rw[World.frozen?_setCell,World.frozen?_setCell];exact h.f1,h.lo,by simpa using h.lt⟩
theorem quot_le {m:Arcs} (h:mayS m=true) {i:Nat} (hi:i<m.length) (h0:0<i):stpS m i/stpS m (i-1)≤cntS m (i-1)∧cntS m (i-1)≤87381:=by
 have h2:=mayS_facts h
 rw[mayS_eq] at h
 simp only[Bool.and_eq_true,Nat.ble_eq] at h
 have h3:=((steps_iff m).1 h.1.1.2).2 i hi
 rw[stepOk_at hi,Bool.and_eq_true,Bool.or_eq_true] at h3
 have h4:fitsS (m[i-1]'(by omega)) m[i]=true:=h3.2.resolve_left (by simp;omega)
 rw[stpS_at hi,stpS_at (show i-1<m.length by omega),cntS_at (show i-1<m.length by omega)]
 have h5:fitsS ((m[i-1]'(by omega)).1,(m[i-1]'(by omega)).2) (m[i].1,m[i].2)=true:=h4
 unfold fitsS at h5
 simp only[Bool.and_eq_true,Nat.ble_eq,Nat.blt_eq] at h5
 refine ⟨h5.2,?_⟩
 have h6:=sizeS_mono m i
 have h7:=sizeS_take (l:=m) (k:=i-1) (by omega)
 rw[show i-1+1=i by omega] at h7
 have:=h2.2.2.1
 omega
def RetGa (w:World) (X F P M:Nat) (R:Option Nat) (room:Int) (n ag xf b c:Nat) (m:Arcs) (g d:Nat) (D:List UInt8) (o:Option (List UInt8)) (e:Ending) (w':World):Prop:=
 e= .returned (.bool o.isSome)∧∃R' n',n'≤n+3∧FiM w' X F P M R' room n' ag xf b c m g d (o.getD D)∧Kp (Tcg P M R g) w w'∧∀j,R'=some j→R=some j∨w.heap.size≤j
theorem wgathers_any {X F P M:Nat} {R:Option Nat} {room:Int} {n ag xf b c:Nat} {m:Arcs} {g d:Nat} {D:List UInt8} (i:Nat) (hi:i<m.length) (h0:0<i) (t:Int) (ht0:0≤t) (ht:t≤4294967295) (hn:n≤999000) (w:World) (h:FiM w X F P M R room n ag xf b c m g d D):Calls Tryz.prog 92 #[.pointer (some ⟨X,0,none⟩), .int .i64 i, .int .i64 t] w (RetGa w X F P M R room n ag xf b c m g d D (gathS ag xf m D i t)):=by
 obtain ⟨v0,hv0,vz0,vz1,vz2⟩:=info_parts info_val
 have hF:=MayF.ofH h.may
 have hmS:mayS m=true:=by have h2:=h.may;unfold mayH at h2;rw[Bool.and_eq_true,nats_ints] at h2;exact h2.2
 have hq:=quot_le hmS hi h0
 have hs1:=hF.s1 i hi
 have hi0:i-1<m.length:=by omega
 have hs0:=hF.s1 (i-1) hi0
 obtain ⟨T,hT⟩:∃T,T=alignS t (stpS m i):=⟨_,rfl⟩
 have hTf:=align_facts (t:=t) (step:=(stpS m i:Int)) (by omega) ht0
 have hal:=fun W=>align_any t (stpS m i) (by omega) W
 rw[←hT] at hTf hal
 have hga:gathS ag xf m D i t=if (putV ag xf (gathL m D i T)).ok=true∧1≤T then some (layS m D i T (putV ag xf (gathL m D i T)).n) else none:=by unfold gathS gathV;rw[←hT]
 rw[hga]
 have hgl:gathL m D i T=(List.range (stpS m i/stpS m (i-1))).map fun (k:Nat)=>hasV m D (i-1) (T+k*stpS m (i-1)):=rfl
 have hput:=fun W A c l (hl:l.length≤1000000) (hr:Rv W A l)=>put_any ag xf A c l W hl hr
 obtain ⟨S1,hS1⟩:∃S1,S1=stpS m i:=⟨_,rfl⟩
 obtain ⟨C1,hC1⟩:∃C1,C1=cntS m i:=⟨_,rfl⟩
 obtain ⟨S0,hS0e⟩:∃S0,S0=stpS m (i-1):=⟨_,rfl⟩
 obtain ⟨C0,hC0⟩:∃C0,C0=cntS m (i-1):=⟨_,rfl⟩
 have HA1:Hid (∀W,Gr w W→W.cell? ⟨b,i*2,none⟩=some (.int .i64 S1)∧W.cell? ⟨b,i*2+1,none⟩=some (.int .i64 C1)):=Lib.hid fun W gW=>by rw[hS1,hC1];exact (h.gr gW).arc hi
 have HA0:Hid (∀W,Gr w W→W.cell? ⟨b,(i-1)*2,none⟩=some (.int .i64 S0)∧W.cell? ⟨b,(i-1)*2+1,none⟩=some (.int .i64 C0)):=Lib.hid fun W gW=>by rw[hS0e,hC0];exact (h.gr gW).arc hi0
 obtain ⟨N,hN⟩:∃N,N=S1/S0:=⟨_,rfl⟩
 rw[←hS1,←hS0e,←hN] at hgl
 rw[←hS1,←hS0e,←hN] at hq
 rw[←hS1] at hs1 hal
 rw[←hS0e] at hs0
 have hNi:(N:Int)≤87381:=by omega
 have hNm:N≤1000000:=Nat.le_trans (Nat.le_trans hq.1 hq.2) (by decide)
 have hqi:Int.tdiv (S1:Int) (S0:Int)=(N:Int):=by rw[Int.tdiv_eq_ediv_of_nonneg (by omega),hN];simp
 have hw1:IntKind.i64.wrap (Int.tdiv (S1:Int) (S0:Int))=(N:Int):=by rw[hqi];exact IntWalk.i64_in _ (by omega)
 have hS0n:¬(S0:Int)=0:=by omega
 have h01:(0:Int)≤(S1:Int):=by omega
 have hw1b:wrap64 ((S1:Int)/(S0:Int))=(N:Int):=by
  have e:(S1:Int)/(S0:Int)=(N:Int):=by rw[hN];simp
  rw[e];exact IntWalk.wrap64_in (N:Int) (by omega)
 obtain ⟨j,hj⟩:∃j,j=i-1:=⟨_,rfl⟩
 have hm8:(m.length:Int)≤8:=by have:=hF.l8;omega
 have hij:(i:Int)-1=(j:Int):=by omega
 have hw2:IntKind.i64.wrap ((i:Int)-1)=(j:Int):=by rw[hij];exact IntWalk.i64_in _ (by omega)
 have hil:(i:Int)<(m.length:Int):=by omega
 have hjl:(j:Int)<(m.length:Int):=by omega
 have hwi:IntKind.i64.wrap (i:Int)=(i:Int):=IntWalk.i64_in _ (by omega)
 have hwj:IntKind.i64.wrap (j:Int)=(j:Int):=IntWalk.i64_in _ (by omega)
 have hNS:∀k:Nat,k<N→k*S0≤S1:=fun k hk=>Nat.le_trans (Nat.mul_le_mul_right S0 (Nat.le_of_lt hk)) (by rw[hN];exact Nat.div_mul_le_self S1 S0)
 rw[←hj] at HA0 hgl
 obtain ⟨L,hL⟩:∃L,L=gathL m D i T:=⟨_,rfl⟩
 rw[←hL]
 have hLl:L.length=N:=by rw[hL,hgl,List.length_map,List.length_range]
 have hLq:∀q (hq:q<L.length),L[q]=hasV m D j (T+q*S0):=fun q hq=>by
  subst hL
  simp only[hgl,List.getElem_map,List.getElem_range]
 have HLm:=Lib.hid (show L.length≤1000000 by rw[hLl];exact hNm)
 have HL:=Lib.hid (And.intro hLl (And.intro hLq hL))
 obtain ⟨pv,hpv⟩:∃pv,pv=putV ag xf L:=⟨_,rfl⟩
 rw[←hpv]
 obtain ⟨vo,vn⟩:=pv
 have HPV:=Lib.hid hpv
 obtain ⟨o,ho⟩:∃o,o=if vo=true∧1≤T then some (layS m D i T vn) else none:=⟨_,rfl⟩
 simp only[←ho]
 have HOO:=Lib.hid ho
 clear ho
 clear hpv hL hLl hLq
 have HHAS:=Lib.hid (fun W (gW:Gr w W) (x:Int) (hx0:0≤x) (hx:x≤4611686018427387904)=>whas_any j (by rw[hj];exact hi0) x hx0 hx W (h.gr gW))
 have HAL:=Lib.hid hal
 have H0:=Lib.hid h
 have HPU:=Lib.hid hput
 have HI:=Lib.hid (And.intro hi (And.intro h0 (And.intro hj (And.intro hn (And.intro hNS hgl)))))
 have hS1i:(S1:Int)≤16777216:=by omega
 have hS0i:(S0:Int)≤16777216:=by omega
 have hT0:0≤T:=hTf.1
 have hTi:T≤4294967295:=by omega
 clear h hF hmS hq hi0 hs0 hs1 hTf hal hga hput hS1 hC1 hS0e hC0 hN hj hNS hgl hT ht0 hi h0 hn hqi
 go_enter Tryz.func92,Tryz.ntmps92
 go_upto_region 1 with (fail)
 go_cut [7,8] from 13 to 81 (fun s7 s8 wx=>∃p7 p8,s7= .pointer (some ⟨p7,0,none⟩)∧s8= .pointer (some ⟨p8,0,none⟩)∧wx.cell? ⟨p7,0,none⟩=some (.int .i64 S1)∧wx.cell? ⟨p8,0,none⟩=some (.int .i64 S0)∧p7<wx.heap.size∧p8<wx.heap.size∧Gr w wx)
 case first=>
  refine wp_region_Z 20 (Gr w) (by kernel_rfl) ?_
  have hS0:Gr w w.drew:=Gr.drew (Gr.refl _)
  obtain ⟨V,hV⟩:∃V,V=w.drew:=⟨_,rfl⟩
  rw[←hV] at hS0 ⊢
  clear hV
  refine zu 0 rfl hS0 (fun W hS=>by go_simp;rfl) ?_
  refine zu 1 rfl hS0 (fun W hS=>by go_simp;rfl) ?_
  refine zu 2 rfl hS0 (fun W hS=>by go_simp;rfl) ?_
  refine zu 3 rfl hS0 (fun W hS=>by go_simp;rfl) ?_
  refine zu 4 rfl hS0 (fun W hS=>by have s2:=(H0.out.gr hS).x2;go_simp;rfl) ?_
  refine zu 5 rfl hS0 (fun W hS=>by go_simp;rfl) ?_
  refine zu 6 rfl hS0 (fun W hS=>by go_simp;rfl) ?_
  refine zu 7 rfl hS0 (fun W hS=>by obtain ⟨a0,a1⟩:=HA1.out W hS;go_simp;rfl) ?_
  refine zu 8 rfl hS0 (fun W hS=>by go_simp;rfl) ?_
  refine zu 9 rfl hS0 (fun W hS=>by go_simp;rfl) ?_
  refine zu 10 rfl hS0 (fun W hS=>by go_simp;rfl) ?_
  refine zu 11 rfl hS0 (fun W hS=>by go_simp;rfl) ?_
  refine zu 12 rfl hS0 (fun W hS=>by have s2:=(H0.out.gr hS).x2;go_simp;rfl) ?_
  refine zu 13 rfl hS0 (fun W hS=>by go_simp;rfl) ?_
  refine zu 14 rfl hS0 (fun W hS=>by go_simp;rfl) ?_
  refine zu 15 rfl hS0 (fun W hS=>by go_simp;rfl) ?_
  refine zu 16 rfl hS0 (fun W hS=>by obtain ⟨a2,a3⟩:=HA0.out W hS;go_simp;rfl) ?_
  refine wpAnyZ_ready (rs:=[17,18]) (by kernel_rfl) (by simp) ?_
  refine AllReadyZ.cons (i:=17) rfl (by kernel_rfl) ?zx71 (AllReadyZ.cons (i:=18) rfl (by kernel_rfl) ?zx72 AllReadyZ.nil)
  ·
   intro K hK
   simp only[List.getElem_toArray,List.getElem_cons_succ,List.getElem_cons_zero]
   go_simp
   obtain ⟨V1,hV1⟩:∃V1,V1=V.alloc (.cells #[.int .i64 0, .int .i64 0] 69):=⟨_,rfl⟩
   have kV1:Gr V V1:=by rw[hV1];exact Gr.alloc (Gr.refl _) _
   have nb2:NBl V.heap.size V1 V.heap.size (.int .i64 0) (.int .i64 0):=by rw[hV1];exact NBl.new _ _ _ _
   rw[←hV1]
   clear hV1
   have g3:=Gr.trans hS0 kV1
   clear kV1
   refine hK.out _ _ (fun hnz=>?zs4) (fun _=>?zr5)
   case zs4=>exact g3
   clear hK K
   try (simp only[Pu,List.getElem_toArray,List.getElem_cons_succ,List.getElem_cons_zero])
   refine wpAnyZ_ready (rs:=[18]) (by kernel_rfl) (by simp) ?_
   refine AllReadyZ.cons (i:=18) rfl (by kernel_rfl) ?zx13 AllReadyZ.nil
   intro K hK
   simp only[List.getElem_toArray,List.getElem_cons_succ,List.getElem_cons_zero]
   go_simp
   obtain ⟨V6,hV6⟩:∃V6,V6=V1.alloc (.cells #[.int .i64 0, .int .i64 0] 69):=⟨_,rfl⟩
   have kV6:Gr V1 V6:=by rw[hV6];exact Gr.alloc (Gr.refl _) _
   have nb7:NBl V1.heap.size V6 V1.heap.size (.int .i64 0) (.int .i64 0):=by rw[hV6];exact NBl.new _ _ _ _
   rw[←hV6]
   clear hV6
   have nb9:=nb2.gr kV6
   have ne10:V.heap.size≠V1.heap.size:=Nat.ne_of_lt nb2.lt
   have g8:=Gr.trans g3 kV6
   clear kV6
   refine hK.out _ _ (fun hnz=>?zs11) (fun _=>?zr12)
   case zs11=>exact g8
   clear hK K
   try (simp only[Pu,List.getElem_toArray,List.getElem_cons_succ,List.getElem_cons_zero])
   refine wpAnyZ_ready (rs:=[19]) (by kernel_rfl) (by simp) ?_
   refine AllReadyZ.cons (i:=19) rfl (by kernel_rfl) ?zx24 AllReadyZ.nil
   intro K hK
   simp only[List.getElem_toArray,List.getElem_cons_succ,List.getElem_cons_zero]
   obtain ⟨q14,q15,q16,q17, -, -⟩:=id nb9
   have nb18:=nb9.set (.int .i64 S1) (.int .i64 C1) rfl rfl
   have nb19:=nb7.other (b':=V.heap.size) (.int .i64 S1) (.int .i64 C1) (by first|exact ne10|exact Ne.symm ne10)
   have g20:=((g8.setCell (p:=⟨V.heap.size,0,none⟩) hS0.size (.int .i64 S1)).setCell (p:=⟨V.heap.size,1,none⟩) hS0.size (.int .i64 C1))
   go_wp2_with fail
   clear q14 q15 q16 q17
   refine hK.out _ _ (fun hnz=>?zs22) (fun _=>?zr23)
   case zs22=>exact g20
   clear hK K
   try (simp only[Pu,List.getElem_toArray,List.getElem_cons_succ,List.getElem_cons_zero])
   refine wpAnyZ_ready (rs:=[20]) (by kernel_rfl) (by simp) ?_
   refine AllReadyZ.cons (i:=20) rfl (by kernel_rfl) ?zx35 AllReadyZ.nil
   intro K hK
   simp only[List.getElem_toArray,List.getElem_cons_succ,List.getElem_cons_zero]
   obtain ⟨q25,q26,q27,q28, -, -⟩:=id nb19
   have nb29:=nb19.set (.int .i64 S0) (.int .i64 C0) rfl rfl
   have nb30:=nb18.other (b':=V1.heap.size) (.int .i64 S0) (.int .i64 C0) (by first|exact ne10|exact Ne.symm ne10)
   have g31:=((g20.setCell (p:=⟨V1.heap.size,0,none⟩) g3.size (.int .i64 S0)).setCell (p:=⟨V1.heap.size,1,none⟩) g3.size (.int .i64 C0))
   go_wp2_with fail
   clear q25 q26 q27 q28
   refine hK.out _ _ (fun hnz=>?zs33) (fun _=>?zr34)
   case zs33=>exact absurd rfl hnz
   clear hK K
   try (simp only[Pu,List.getElem_toArray,List.getElem_cons_succ,List.getElem_cons_zero])
   refine wpAnyZ_done (by kernel_rfl) ?_ _
   go_wp2_with fail
   go_meet
   exact ⟨_,_,rfl,rfl,nb30.c0,nb29.c0,nb30.lt,nb29.lt,g31⟩
  ·
   intro K hK
   simp only[List.getElem_toArray,List.getElem_cons_succ,List.getElem_cons_zero]
   go_simp
   obtain ⟨V36,hV36⟩:∃V36,V36=V.alloc (.cells #[.int .i64 0, .int .i64 0] 69):=⟨_,rfl⟩
   have kV36:Gr V V36:=by rw[hV36];exact Gr.alloc (Gr.refl _) _
   have nb37:NBl V.heap.size V36 V.heap.size (.int .i64 0) (.int .i64 0):=by rw[hV36];exact NBl.new _ _ _ _
   rw[←hV36]
   clear hV36
   have g38:=Gr.trans hS0 kV36
   clear kV36
   refine hK.out _ _ (fun hnz=>?zs39) (fun _=>?zr40)
   case zs39=>exact g38
   clear hK K
   try (simp only[Pu,List.getElem_toArray,List.getElem_cons_succ,List.getElem_cons_zero])
   refine wpAnyZ_ready (rs:=[17]) (by kernel_rfl) (by simp) ?_
   refine AllReadyZ.cons (i:=17) rfl (by kernel_rfl) ?zx48 AllReadyZ.nil
   intro K hK
   simp only[List.getElem_toArray,List.getElem_cons_succ,List.getElem_cons_zero]
   go_simp
   obtain ⟨V41,hV41⟩:∃V41,V41=V36.alloc (.cells #[.int .i64 0, .int .i64 0] 69):=⟨_,rfl⟩
   have kV41:Gr V36 V41:=by rw[hV41];exact Gr.alloc (Gr.refl _) _
   have nb42:NBl V36.heap.size V41 V36.heap.size (.int .i64 0) (.int .i64 0):=by rw[hV41];exact NBl.new _ _ _ _
   rw[←hV41]
   clear hV41
   have nb44:=nb37.gr kV41
   have ne45:V.heap.size≠V36.heap.size:=Nat.ne_of_lt nb37.lt
   have g43:=Gr.trans g38 kV41
   clear kV41
   refine hK.out _ _ (fun hnz=>?zs46) (fun _=>?zr47)
   case zs46=>exact g43
   clear hK K
   try (simp only[Pu,List.getElem_toArray,List.getElem_cons_succ,List.getElem_cons_zero])
   refine wpAnyZ_ready (rs:=[19]) (by kernel_rfl) (by simp) ?_
   refine AllReadyZ.cons (i:=19) rfl (by kernel_rfl) ?zx59 AllReadyZ.nil
   intro K hK
   simp only[List.getElem_toArray,List.getElem_cons_succ,List.getElem_cons_zero]
   obtain ⟨q49,q50,q51,q52, -, -⟩:=id nb42
   have nb53:=nb42.set (.int .i64 S1) (.int .i64 C1) rfl rfl
   have nb54:=nb44.other (b':=V36.heap.size) (.int .i64 S1) (.int .i64 C1) (by first|exact ne45|exact Ne.symm ne45)
   have g55:=((g43.setCell (p:=⟨V36.heap.size,0,none⟩) g38.size (.int .i64 S1)).setCell (p:=⟨V36.heap.size,1,none⟩) g38.size (.int .i64 C1))
   go_wp2_with fail
   clear q49 q50 q51 q52
   refine hK.out _ _ (fun hnz=>?zs57) (fun _=>?zr58)
   case zs57=>exact g55
   clear hK K
   try (simp only[Pu,List.getElem_toArray,List.getElem_cons_succ,List.getElem_cons_zero])
   refine wpAnyZ_ready (rs:=[20]) (by kernel_rfl) (by simp) ?_
   refine AllReadyZ.cons (i:=20) rfl (by kernel_rfl) ?zx70 AllReadyZ.nil
   intro K hK
   simp only[List.getElem_toArray,List.getElem_cons_succ,List.getElem_cons_zero]
   obtain ⟨q60,q61,q62,q63, -, -⟩:=id nb54
   have nb64:=nb54.set (.int .i64 S0) (.int .i64 C0) rfl rfl
   have nb65:=nb53.other (b':=V.heap.size) (.int .i64 S0) (.int .i64 C0) (by first|exact ne45|exact Ne.symm ne45)
   have g66:=((g55.setCell (p:=⟨V.heap.size,0,none⟩) hS0.size (.int .i64 S0)).setCell (p:=⟨V.heap.size,1,none⟩) hS0.size (.int .i64 C0))
   go_wp2_with fail
   clear q60 q61 q62 q63
   refine hK.out _ _ (fun hnz=>?zs68) (fun _=>?zr69)
   case zs68=>exact absurd rfl hnz
   clear hK K
   try (simp only[Pu,List.getElem_toArray,List.getElem_cons_succ,List.getElem_cons_zero])
   refine wpAnyZ_done (by kernel_rfl) ?_ _
   go_wp2_with fail
   go_meet
   exact ⟨_,_,rfl,rfl,nb65.c0,nb64.c0,nb65.lt,nb64.lt,g66⟩
 case rest=>
  obtain ⟨p7,p8,rfl,rfl,c7,c8,l7,l8,hgw⟩:=hcut
  have HGW:=Lib.hid hgw
  clear hgw
  go_wp2_with (go_at_call 74;refine (HAL.out _).mono ?_;rintro e w1 ⟨rfl,rfl⟩)
  try simp only[hw1b]
  have HWB:=Lib.hid hw1b
  clear hw1 hw1b h01 hS0n
  go_loopw [10,39] (fun v k wr=>∃q:Nat,q≤N∧k= .int .i64 q∧Gr wc wr∧wr.ownsRow wc.heap.size 107 2 v q (vcells (L.take q))) (fun _ k _=>N-(intOf k).toNat)
  case atStart=>exact ⟨0,Nat.zero_le _,rfl,Gr.refl _,World.ownsRow_nil _ _ _ _⟩
  case round=>
   obtain ⟨q,hq,rfl,hgr,hown⟩:=hrel
   have d7:=(Below.cell hgr (p:=⟨p7,0,none⟩) l7).trans c7
   have d8:=(Below.cell hgr (p:=⟨p8,0,none⟩) l8).trans c8
   have hz:=hgr.size
   by_cases hlt:q<N
   ·
    have hlti:(q:Int)<(N:Int):=by omega
    have hql:q<L.length:=by rw[HL.out.1];exact hlt
    have hqs:q*S0≤S1:=HI.out.2.2.2.2.1 q hlt
    have hqsi:(q:Int)*(S0:Int)≤(S1:Int):=by rw[←Int.natCast_mul];exact Int.ofNat_le.2 hqs
    have hqs0:0≤(q:Int)*(S0:Int):=by rw[←Int.natCast_mul];omega
    obtain ⟨x,hx⟩:∃x:Int,x=(q:Int)*(S0:Int):=⟨_,rfl⟩
    obtain ⟨y,hy⟩:∃y:Int,y=T+(q:Int)*(S0:Int):=⟨_,rfl⟩
    have hw3:IntKind.i64.wrap ((q:Int)*(S0:Int))=x:=by rw[←hx];exact IntWalk.i64_in _ (by omega)
    have hw4:IntKind.i64.wrap (T+x)=y:=by rw[hy,←hx];exact IntWalk.i64_in _ (by omega)
    have hy0:0≤y:=by omega
    have hy1:y≤4611686018427387904:=by omega
    obtain ⟨u,hu⟩:∃u,u=L[q]:=⟨_,rfl⟩
    have huh:hasV m D j y=u:=by rw[hu,HL.out.2.1 q hql,hy]
    have HT:=Lib.hid (show L.take (q+1)=L.take q++[u] by rw[List.take_succ_eq_append_getElem hql,hu])
    have HH:Hid (∀W,Gr w W→Calls Tryz.prog 75 #[.pointer (some ⟨X,0,none⟩), .int .i64 j, .int .i64 y] W (RetVl u W)):=Lib.hid fun W gW=>by rw[←huh];exact HHAS.out W gW y hy0 hy1
    have HY:=Lib.hid (And.intro hy0 hy1)
    have HGR:=Lib.hid hgr
    have HOW:=Lib.hid hown
    clear hqs hqsi hqs0 hx hy huh hu hql hgr hown hy0 hy1
    go_wp2_with (first|(go_at_call 75;refine (HH.out _ (HGW.out.trans HGR.out)).mono ?_;rintro e w1 ⟨rfl,g1⟩;have HG1:=Lib.hid (HGR.out.trans g1);have hown1:=own_gr HOW.out g1;have hrx:=Rv.new (W:=w1) rfl 107 [u];have hv0w:=own_gr hown1 (Gr.alloc (Gr.refl w1) (.cells (vcells [u]).toArray 107));have hvl:=hown1.lt;have hz1:=g1.size;clear g1)|(at_builtin;refine wpList_append_rd rfl (.tmp 42) (.tmp 53) 87 rfl wc.heap.size 107 v0 _ 2 16 Tryz.underlying87 hv0 vz0 vz1 vz2 rfl (by decide) _ _ _ rfl hv0w (some ⟨w1.heap.size,0,none⟩) 1 _ (vcells [u]) rfl hrx (vcells_one _) (by unfold maxLen;omega) (by omega) (by simp;omega) ?_;intro v' w2 hown2 hgr2 hat2))
    have hg2:Gr wc w2:=Gr.grown (Gr.alloc HG1.out _) hgr2 (fun k hk=>(hvl k hk).1)
    have HO2:=Lib.hid hown2
    clear hv0w hvl hgr2 hat2 hrx hown1 hown2
    go_wp2
    go_roundw
    case rel=>exact ⟨q+1,by omega,by go_num,hg2,by rw[HT.out];simpa [vcells_append] using HO2.out⟩
    case measure=>simp[intOf];omega
   ·
    have hqN:q=N:=by omega
    subst hqN
    obtain ⟨A',c',hv⟩:=own_form hown
    subst hv
    have hrv:Rv wr A' L:=by
     have:=Rd.own hown
     rw[←HL.out.1,List.take_length] at this
     exact this
    have HPUT:Hid (∀W,Gr wr W→Calls Tryz.prog 106 #[.int .i64 ag, .int .i64 xf, .slice A' q c'] W fun e w'=>e= .returned (.agg #[.bool vo, .int .i64 vn])∧Gr W w'):=Lib.hid fun W gW=>by
     have:=HPU.out W A' c' L HLm.out (hrv.gr gW)
     rw[←HPV.out,HL.out.1] at this
     exact this
    have HW:Hid (FiM wr X F P M R room n ag xf b c m g d D∧Gr w wr):=Lib.hid ⟨H0.out.gr (HGW.out.trans hgr),HGW.out.trans hgr⟩
    clear hown hrv hgr d7 d8 c7 c8 hq hlt
    go_upto_region 9 with (fail)
    go_cut [12] from 40 to 74 (fun s12 wx=>∃p,s12= .pointer (some ⟨p,0,none⟩)∧wx.cell? ⟨p,0,none⟩=some (.bool vo)∧wx.cell? ⟨p,1,none⟩=some (.int .i64 vn)∧p<wx.heap.size∧Gr wr wx)
    case first=>
     refine wp_region_Z 13 (Gr wr) (by kernel_rfl) ?_
     have hS0:Gr wr wr.drew:=Gr.drew (Gr.refl _)
     obtain ⟨V,hV⟩:∃V,V=wr.drew:=⟨_,rfl⟩
     rw[←hV] at hS0 ⊢
     clear hV
     refine zu 0 rfl hS0 (fun W hS=>by go_simp;rfl) ?_
     refine zu 1 rfl hS0 (fun W hS=>by go_simp;rfl) ?_
     refine zu 2 rfl hS0 (fun W hS=>by go_simp;rfl) ?_
     refine zu 3 rfl hS0 (fun W hS=>by go_simp;rfl) ?_
     refine zu 4 rfl hS0 (fun W hS=>by have s0:=(HW.out.1.gr hS).x0;have s1:=(HW.out.1.gr hS).x1;go_simp;rfl) ?_
     refine zu 5 rfl hS0 (fun W hS=>by go_simp;rfl) ?_
     refine zu 6 rfl hS0 (fun W hS=>by go_simp;rfl) ?_
     refine zu 7 rfl hS0 (fun W hS=>by go_simp;rfl) ?_
     refine zu 8 rfl hS0 (fun W hS=>by go_simp;rfl) ?_
     refine zu 9 rfl hS0 (fun W hS=>by have s0:=(HW.out.1.gr hS).x0;have s1:=(HW.out.1.gr hS).x1;go_simp;rfl) ?_
     refine zu 10 rfl hS0 (fun W hS=>by go_simp;rfl) ?_
     refine wpAnyZ_ready (rs:=[11,12]) (by kernel_rfl) (by simp) ?_
     refine AllReadyZ.cons (i:=11) rfl (by kernel_rfl) ?zx116 (AllReadyZ.cons (i:=12) rfl (by kernel_rfl) ?zx117 AllReadyZ.nil)
     ·
      intro K hK
      simp only[List.getElem_toArray,List.getElem_cons_succ,List.getElem_cons_zero]
      go_simp
      refine (HPUT.out _ hS0).mono ?_
      rintro e V73 ⟨rfl,kV73⟩
      have g74:=Gr.trans hS0 kV73
      clear kV73
      go_wp2_with fail
      refine hK.out _ _ (fun hnz=>?zs75) (fun _=>?zr76)
      case zs75=>exact g74
      clear hK K
      try (simp only[Pu,List.getElem_toArray,List.getElem_cons_succ,List.getElem_cons_zero])
      refine wpAnyZ_ready (rs:=[12]) (by kernel_rfl) (by simp) ?_
      refine AllReadyZ.cons (i:=12) rfl (by kernel_rfl) ?zx82 AllReadyZ.nil
      intro K hK
      simp only[List.getElem_toArray,List.getElem_cons_succ,List.getElem_cons_zero]
      go_simp
      obtain ⟨V77,hV77⟩:∃V77,V77=V73.alloc (.cells #[.bool false, .int .i64 0] 107):=⟨_,rfl⟩
      have kV77:Gr V73 V77:=by rw[hV77];exact Gr.alloc (Gr.refl _) _
      have nb78:NBl V73.heap.size V77 V73.heap.size (.bool false) (.int .i64 0):=by rw[hV77];exact NBl.new _ _ _ _
      rw[←hV77]
      clear hV77
      have g79:=Gr.trans g74 kV77
      clear kV77
      refine hK.out _ _ (fun hnz=>?zs80) (fun _=>?zr81)
      case zs80=>exact g79
      clear hK K
      try (simp only[Pu,List.getElem_toArray,List.getElem_cons_succ,List.getElem_cons_zero])
      refine wpAnyZ_ready (rs:=[13]) (by kernel_rfl) (by simp) ?_
      refine AllReadyZ.cons (i:=13) rfl (by kernel_rfl) ?zx93 AllReadyZ.nil
      intro K hK
      simp only[List.getElem_toArray,List.getElem_cons_succ,List.getElem_cons_zero]
      obtain ⟨q83,q84,q85,q86, -, -⟩:=id nb78
      have nb87:=nb78.set (.bool vo) (.int .i64 vn) rfl rfl
      have g89:=((g79.setCell (p:=⟨V73.heap.size,0,none⟩) g74.size (.bool vo)).setCell (p:=⟨V73.heap.size,1,none⟩) g74.size (.int .i64 vn))
      go_wp2_with fail
      clear q83 q84 q85 q86
      refine hK.out _ _ (fun hnz=>?zs91) (fun _=>?zr92)
      case zs91=>exact absurd rfl hnz
      clear hK K
      try (simp only[Pu,List.getElem_toArray,List.getElem_cons_succ,List.getElem_cons_zero])
      refine wpAnyZ_done (by kernel_rfl) ?_ _
      go_wp2_with fail
      go_meet
      exact ⟨_,rfl,nb87.c0,nb87.c1,nb87.lt,g89⟩
     ·
      intro K hK
      simp only[List.getElem_toArray,List.getElem_cons_succ,List.getElem_cons_zero]
      go_simp
      obtain ⟨V94,hV94⟩:∃V94,V94=V.alloc (.cells #[.bool false, .int .i64 0] 107):=⟨_,rfl⟩
      have kV94:Gr V V94:=by rw[hV94];exact Gr.alloc (Gr.refl _) _
      have nb95:NBl V.heap.size V94 V.heap.size (.bool false) (.int .i64 0):=by rw[hV94];exact NBl.new _ _ _ _
      rw[←hV94]
      clear hV94
      have g96:=Gr.trans hS0 kV94
      clear kV94
      refine hK.out _ _ (fun hnz=>?zs97) (fun _=>?zr98)
      case zs97=>exact g96
      clear hK K
      try (simp only[Pu,List.getElem_toArray,List.getElem_cons_succ,List.getElem_cons_zero])
      refine wpAnyZ_ready (rs:=[11]) (by kernel_rfl) (by simp) ?_
      refine AllReadyZ.cons (i:=11) rfl (by kernel_rfl) ?zx104 AllReadyZ.nil
      intro K hK
      simp only[List.getElem_toArray,List.getElem_cons_succ,List.getElem_cons_zero]
      go_simp
      refine (HPUT.out _ g96).mono ?_
      rintro e V99 ⟨rfl,kV99⟩
      have nb101:=nb95.gr kV99
      have g100:=Gr.trans g96 kV99
      clear kV99
      go_wp2_with fail
      refine hK.out _ _ (fun hnz=>?zs102) (fun _=>?zr103)
      case zs102=>exact g100
      clear hK K
      try (simp only[Pu,List.getElem_toArray,List.getElem_cons_succ,List.getElem_cons_zero])
      refine wpAnyZ_ready (rs:=[13]) (by kernel_rfl) (by simp) ?_
      refine AllReadyZ.cons (i:=13) rfl (by kernel_rfl) ?zx115 AllReadyZ.nil
      intro K hK
      simp only[List.getElem_toArray,List.getElem_cons_succ,List.getElem_cons_zero]
      obtain ⟨q105,q106,q107,q108, -, -⟩:=id nb101
      have nb109:=nb101.set (.bool vo) (.int .i64 vn) rfl rfl
      have g111:=((g100.setCell (p:=⟨V.heap.size,0,none⟩) hS0.size (.bool vo)).setCell (p:=⟨V.heap.size,1,none⟩) hS0.size (.int .i64 vn))
      go_wp2_with fail
      clear q105 q106 q107 q108
      refine hK.out _ _ (fun hnz=>?zs113) (fun _=>?zr114)
      case zs113=>exact absurd rfl hnz
      clear hK K
      try (simp only[Pu,List.getElem_toArray,List.getElem_cons_succ,List.getElem_cons_zero])
      refine wpAnyZ_done (by kernel_rfl) ?_ _
      go_wp2_with fail
      go_meet
      exact ⟨_,rfl,nb109.c0,nb109.c1,nb109.lt,g111⟩
    case rest=>
     obtain ⟨p,rfl,k0,k1,kl,hgx⟩:=hcut
     have HGX:=Lib.hid (HW.out.2.trans hgx)
     have HFX:=Lib.hid (HW.out.1.gr hgx)
     have HNO:Hid (o=none→∃R' n',n'≤n+3∧FiM wc X F P M R' room n' ag xf b c m g d (o.getD D)∧Kp (Tcg P M R g) w wc∧∀j,R'=some j→R=some j∨w.heap.size≤j):=Lib.hid (fun e=>⟨R,n,by omega,by rw[e];exact HFX.out,Kp.of_gr _ HGX.out,fun _ e=> .inl e⟩)
     cases vo with
     | false=>
      have HN:=Lib.hid (show o=none by rw[HOO.out,if_neg (fun e=>by cases e.1)])
      clear hgx
      go_wp2
      go_ret
      exact ⟨ret_b (by rw[HN.out];rfl),HNO.out HN.out⟩
     | true=>
      by_cases hT1:T<1
      ·
       have HN:=Lib.hid (show o=none by rw[HOO.out,if_neg (fun e=>by have:=e.2;omega)])
       clear hgx
       go_wp2
       go_ret
       exact ⟨ret_b (by rw[HN.out];rfl),HNO.out HN.out⟩
      ·
       have HN:=Lib.hid (show o=some (layS m D i T vn) by rw[HOO.out,if_pos ⟨rfl,by omega⟩])
       clear hgx
       go_wp2_with (go_at_call 91;refine (wwrites_any i HI.out.1 T vn hT0 (by omega) HI.out.2.2.2.1 _ HFX.out).mono ?_;rintro e w5 ⟨rfl,R',hf,hk,hr⟩;have H5:=Lib.hid (And.intro hf (And.intro hk hr));clear hf hk hr)
       go_ret
       refine ⟨ret_b (by rw[HN.out];rfl),R',n+3,Nat.le_refl _,by rw[HN.out];exact H5.out.1,(Kp.of_gr _ HGX.out).trans H5.out.2.1 (fun _ _ e=>e),fun z hz=>?_⟩
       rcases H5.out.2.2 z hz with e|e
       ·
        exact .inl e
       ·
        exact .inr (Nat.le_trans HGX.out.size e)
def RetLa (w:World) (X F P M:Nat) (R:Option Nat) (room:Int) (nn ag xf b c:Nat) (m:Arcs) (g d:Nat) (D:List UInt8) (o:Option (List UInt8)) (e:Ending) (w':World):Prop:=
 e= .returned (.bool o.isSome)∧∃R' n',n'≤nn∧FiM w' X F P M R' room n' ag xf b c m g d (o.getD D)∧Kp (Tcg P M R g) w w'∧∀j,R'=some j→R=some j∨w.heap.size≤j
theorem upS_none {ag xf:Int} {m:Arcs} {t:Int} {i k:Nat} {D:List UInt8} (h:gathS ag xf m D i t=none):upS ag xf m t i (k+1) D=D:=by rw[upS,h]
theorem upS_some {ag xf:Int} {m:Arcs} {t:Int} {i k:Nat} {D D':List UInt8} (h:gathS ag xf m D i t=some D'):upS ag xf m t i (k+1) D=upS ag xf m t (i+1) k D':=by rw[upS,h]
theorem field_ok (vo:Bool) (vn:Int) (W:World):(Instr.field 107 (.agg #[.bool vo, .int .i64 vn]) 0).run Tryz.prog W= .ok (.bool vo) W:=by kernel_rfl
theorem tcg_sub {P M g Z:Nat} {R Rq:Option Nat} (h:∀z,Rq=some z→R=some z∨Z≤z):∀i,i<Z→Tcg P M Rq g i→Tcg P M R g i:=fun i hi e=>by
 rcases e with (e|e|e)|e
 ·
  exact .inl (.inl e)
 ·
  exact .inl (.inr (.inl e))
 ·
  rcases h i e with e|e
  ·
   exact .inl (.inr (.inr e))
  ·
   omega
 ·
  exact .inr e
theorem wlays_any {X F P M:Nat} {R:Option Nat} {room:Int} {n ag xf b c:Nat} {m:Arcs} {g d:Nat} {D:List UInt8} (t v now:Int) (hnow:now≤4294967295) (hn:n≤998900) (w:World) (h:FiM w X F P M R room n ag xf b c m g d D):Calls Tryz.prog 58 #[.pointer (some ⟨X,0,none⟩), .agg #[.int .i64 t, .int .i64 v], .int .i64 now] w (RetLa w X F P M R room (n+27) ag xf b c m g d D (laysS ag xf m D t v now)):=by
 obtain ⟨V,hV⟩:∃V,V=w.alloc (.cells #[.int .i64 t, .int .i64 v] 54):=⟨_,rfl⟩
 have gV:Gr w V:=by rw[hV];exact Gr.alloc (Gr.refl w) _
 have hz:w.heap.size<V.heap.size:=by rw[hV];simp
 have b0:V.cell? ⟨w.heap.size,0,none⟩=some (.int .i64 t):=by rw[hV];go_simp
 have b1:V.cell? ⟨w.heap.size,1,none⟩=some (.int .i64 v):=by rw[hV];go_simp
 obtain ⟨o,ho⟩:∃o,o=laysS ag xf m D t v now:=⟨_,rfl⟩
 rw[←ho]
 have HNO:Hid (∀W,Gr w W→o=none→∃R' n',n'≤n+27∧FiM W X F P M R' room n' ag xf b c m g d (o.getD D)∧Kp (Tcg P M R g) w W∧∀j,R'=some j→R=some j∨w.heap.size≤j):=Lib.hid (fun W gW e=>⟨R,n,by omega,by rw[e];exact h.gr gW,Kp.of_gr _ gW,fun _ e=> .inl e⟩)
 have HV:=Lib.hid hV
 have HGV:=Lib.hid gV
 have H0:=Lib.hid h
 have HX2:Hid (∀W,Gr V W→W.cell? ⟨X,2,none⟩=some (.slice (some ⟨b,0,none⟩) m.length c)):=Lib.hid fun W gW=>((h.gr gV).gr gW).x2
 have hF:=MayF.ofH h.may
 have HF:=Lib.hid hF
 have hm8:(m.length:Int)≤8:=by have:=hF.l8;omega
 clear hV gV h hF
 by_cases ht1:t<1
 ·
  have HN:=Lib.hid (show o=none by rw[ho];unfold laysS;rw[if_pos (.inl ht1)])
  clear ho
  go_enter Tryz.func58,Tryz.ntmps58
  go_upto_region 1 with (fail)
  rw[←HV.out]
  clear HV
  go_wp2
  go_ret
  exact ⟨ret_b (by rw[HN.out];rfl),HNO.out _ (HGV.out) HN.out⟩
 by_cases htn:now<t
 ·
  have HN:=Lib.hid (show o=none by rw[ho];unfold laysS;rw[if_pos (.inr (.inl htn))])
  clear ho
  go_enter Tryz.func58,Tryz.ntmps58
  go_upto_region 1 with (fail)
  rw[←HV.out]
  clear HV
  go_wp2
  go_ret
  exact ⟨ret_b (by rw[HN.out];rfl),HNO.out _ (HGV.out) HN.out⟩
 obtain ⟨vo,vn,hv⟩:∃vo vn,ofV v=⟨vo,vn⟩:=⟨_,_,rfl⟩
 have HO:=Lib.hid (fun W=>of_any v W)
 rw[hv] at HO
 have hfd:=fun W=>field_ok vo vn W
 have hlay:laysS ag xf m D t v now=if vo=false then none else if firstS m t now=m.length then none else if alignS t (stpS m (firstS m t now))<1 then none else some (upS ag xf m t (firstS m t now+1) (m.length-(firstS m t now+1)) (layS m D (firstS m t now) (alignS t (stpS m (firstS m t now))) v)):=by
  unfold laysS
  rw[hv]
  by_cases hvo:vo=false
  ·
   rw[if_pos (.inr (.inr hvo)),if_pos hvo]
  ·
   rw[if_neg (fun e=>by rcases e with e|e|e;exact ht1 e;exact htn e;exact hvo e),if_neg hvo]
 rw[hlay] at ho
 cases vo with
 | false=>
  have HN:=Lib.hid (show o=none by rw[ho,if_pos rfl])
  clear ho hlay hv
  go_enter Tryz.func58,Tryz.ntmps58
  go_upto_region 1 with (fail)
  rw[←HV.out]
  clear HV
  go_wp2_with (go_at_call 89;refine (HO.out _).mono ?_;rintro e w1 ⟨rfl,g1⟩;have HG1:=Lib.hid g1;have e0:=(Below.cell g1 (p:=⟨w.heap.size,0,none⟩) hz).trans b0;have e1:=(Below.cell g1 (p:=⟨w.heap.size,1,none⟩) hz).trans b1;have hz1:=Nat.lt_of_lt_of_le hz g1.size;clear g1)
  go_ret
  exact ⟨ret_b (by rw[HN.out];rfl),HNO.out _ (HGV.out.trans HG1.out) HN.out⟩
 | true=>
  rw[if_neg (fun e=>by cases e)] at ho
  have hfs:=fun W (gW:Gr V W)=>wfirst_any t now (by omega) (by omega) hnow W ((H0.out.gr HGV.out).gr gW)
  obtain ⟨f,hf⟩:∃f,f=firstS m t now:=⟨_,rfl⟩
  have hfle:=firstS_le m t now
  rw[←hf] at hfs ho hfle
  have HFS:=Lib.hid hfs
  have hfl:(f:Int)≤(m.length:Int):=by omega
  clear hlay hv hfs hf
  by_cases hfm:f=m.length
  ·
   have HN:=Lib.hid (show o=none by rw[ho,if_pos hfm])
   have hfe:((f:Int)==(m.length:Int))=true:=by rw[hfm];simp
   clear ho hfm
   go_enter Tryz.func58,Tryz.ntmps58
   go_upto_region 1 with (fail)
   rw[←HV.out]
   clear HV
   go_wp2_with (first|(go_at_call 89;refine (HO.out _).mono ?_;rintro e w1 ⟨rfl,g1⟩;have HG1:=Lib.hid g1;have e0:=(Below.cell g1 (p:=⟨w.heap.size,0,none⟩) hz).trans b0;have e1:=(Below.cell g1 (p:=⟨w.heap.size,1,none⟩) hz).trans b1;have hz1:=Nat.lt_of_lt_of_le hz g1.size;clear g1)|(go_at_call 90;refine (HFS.out _ HG1.out).mono ?_;rintro e w2 ⟨rfl,g2⟩;have HG2:=Lib.hid (HG1.out.trans g2);have u0:=(Below.cell g2 (p:=⟨w.heap.size,0,none⟩) hz1).trans e0;have u1:=(Below.cell g2 (p:=⟨w.heap.size,1,none⟩) hz1).trans e1;have x2:=(HX2.out _ HG2.out);have hz2:=Nat.lt_of_lt_of_le hz1 g2.size;clear g2))
   go_ret
   exact ⟨ret_b (by rw[HN.out];rfl),HNO.out _ (HGV.out.trans HG2.out) HN.out⟩
  ·
   rw[if_neg hfm] at ho
   have hfe:((f:Int)==(m.length:Int))=false:=beq_eq_false_iff_ne.2 (by omega)
   have hfi:f<m.length:=by omega
   have hfli:(f:Int)<(m.length:Int):=by omega
   have hst:=HF.out.s1 f hfi
   obtain ⟨T,hT⟩:∃T,T=alignS t (stpS m f):=⟨_,rfl⟩
   have hTf:=align_facts (t:=t) (step:=(stpS m f:Int)) (by omega) (by omega)
   have hal:=fun W=>align_any t (stpS m f) (by omega) W
   rw[←hT] at hTf hal ho
   have hal2:∀W,Calls Tryz.prog 74 #[.int .i64 t, .int .i64 (stpS m f)] W fun e w'=>e= .returned (.int .i64 T)∧Gr W w':=fun W=>(hal W).mono fun e w' h=>⟨h.1,by rw[←h.2];exact Gr.refl _⟩
   have HAL:=Lib.hid hal2
   have HAR:Hid (∀W,Gr V W→W.cell? ⟨b,f*2,none⟩=some (.int .i64 (stpS m f:Nat))∧W.cell? ⟨b,f*2+1,none⟩=some (.int .i64 (cntS m f:Nat))):=Lib.hid fun W gW=>((H0.out.gr HGV.out).gr gW).arc hfi
   have hTi:T≤4611686018427387904:=by omega
   have hT0:0≤T:=hTf.1
   have HTT:=Lib.hid (And.intro hT0 hTi)
   have hwf:IntKind.i64.wrap (f:Int)=(f:Int):=IntWalk.i64_in _ (by omega)
   have ht0:0≤t:=by omega
   have ht4:t≤4294967295:=by omega
   have HTM:=Lib.hid (And.intro ht0 ht4)
   have HFI:=Lib.hid hfi
   clear hT hal hal2 hTf hst hfi ht0 ht4 hfm hfle
   go_enter Tryz.func58,Tryz.ntmps58
   go_upto_region 1 with (fail)
   rw[←HV.out]
   clear HV
   go_upto_region 6 with (first|(go_at_call 89;refine (HO.out _).mono ?_;rintro e w1 ⟨rfl,g1⟩;have HG1:=Lib.hid g1;have e0:=(Below.cell g1 (p:=⟨w.heap.size,0,none⟩) hz).trans b0;have e1:=(Below.cell g1 (p:=⟨w.heap.size,1,none⟩) hz).trans b1;have hz1:=Nat.lt_of_lt_of_le hz g1.size;clear g1)|(go_at_call 90;refine (HFS.out _ HG1.out).mono ?_;rintro e w2 ⟨rfl,g2⟩;have HG2:=Lib.hid (HG1.out.trans g2);have u0:=(Below.cell g2 (p:=⟨w.heap.size,0,none⟩) hz1).trans e0;have u1:=(Below.cell g2 (p:=⟨w.heap.size,1,none⟩) hz1).trans e1;have x2:=(HX2.out _ HG2.out);have hz2:=Nat.lt_of_lt_of_le hz1 g2.size;clear g2))
   clear b0 b1 e0 e1
   refine region_Q (by kernel_rfl) (by kernel_rfl) ?_
   refine qv ?_;simp only[Pu]
   refine q_val (v:=?qv2) (by rfl) (fun W hW=>?qh2) ?qr2
   case qh2=>have y0:=(Below.cell hW (p:=⟨w.heap.size,0,none⟩) hz2).trans u0;go_simp;rfl
   simp only[Pu]
   iterate 4 (refine qv ?_;simp only[Pu])
   refine q_val (v:=?qv7) (by rfl) (fun W hW=>?qh7) ?qr7
   case qh7=>have y2:=HX2.out _ (HG2.out.trans hW);go_simp;rfl
   simp only[Pu]
   iterate 3 (refine qv ?_;simp only[Pu])
   refine q_val (v:=?qv11) (by rfl) (fun W hW=>?qh11) ?qr11
   case qh11=>obtain ⟨a0,a1⟩:=HAR.out _ (HG2.out.trans hW);go_simp;rfl
   simp only[Pu]
   refine q_call (v:= .int .i64 T) (f:=?qf12) (args:=?qa12) (by rfl) (fun W hW=>?qh12) (fun W hW=>?qc12) ?qr12
   case qh12=>go_simp;constructor<;>rfl
   case qc12=>exact (HAL.out W).mono (fun e w' h=>⟨h.1,Gr.trans hW h.2⟩)
   simp only[Pu]
   refine qv ?_;simp only[Pu]
   refine wpQuiet_nil ?_
   intro w6 g6
   have u1b:=(Below.cell g6 (p:=⟨w.heap.size,1,none⟩) hz2).trans u1
   have u0b:=(Below.cell g6 (p:=⟨w.heap.size,0,none⟩) hz2).trans u0
   have HG6:=Lib.hid (HGV.out.trans (HG2.out.trans g6))
   have HZ6:=Lib.hid (Nat.lt_of_lt_of_le hz2 g6.size)
   have hz6:=Nat.lt_of_lt_of_le hz2 g6.size
   clear g6 u0 u1 hz2 x2
   by_cases hT1:T<1
   ·
    have HN:=Lib.hid (show o=none by rw[ho,if_pos hT1])
    clear ho
    go_wp2
    go_ret
    exact ⟨ret_b (by rw[HN.out];rfl),HNO.out _ (HG6.out) HN.out⟩
   ·
    rw[if_neg hT1] at ho
    have HN:=Lib.hid ho
    have hTd:decide (T<1)=false:=decide_eq_false hT1
    clear ho
    go_wp2_with (go_at_call 91;refine (wwrites_any f HFI.out T v HTT.out.1 HTT.out.2 (by omega) _ (H0.out.gr HG6.out)).mono ?_;rintro e w7 ⟨rfl,R7,hf7,hk7,hr7⟩;have u0c:=(hk7.cell (a:=⟨w.heap.size,0,none⟩) hz6 (H0.out.old (Nat.le_refl _))).trans u0b;have H7:=Lib.hid (And.intro hf7 (And.intro hk7 hr7));have hz7:=Nat.lt_of_lt_of_le hz6 hk7.size;clear hf7 hk7 hr7)
    have HST:Hid (f+1≤f+1∧f+1≤m.length∧n+3+3*(m.length-(f+1))≤n+27):=Lib.hid ⟨Nat.le_refl _,HFI.out,by have:=HF.out.l8;omega⟩
    go_loopw [7] (fun k wr=>∃(q:Nat) (Rq:Option Nat) (nq:Nat) (Dq:List UInt8),f+1≤q∧q≤m.length∧k= .int .i64 q∧nq+3*(m.length-q)≤n+27∧FiM wr X F P M Rq room nq ag xf b c m g d Dq∧Kp (Tcg P M R g) w6 wr∧(∀z,Rq=some z→R=some z∨w6.heap.size≤z)∧Hid (o=some (upS ag xf m t q (m.length-q) Dq))) (fun k _=>m.length-(intOf k).toNat)
    case atStart=>exact ⟨f+1,R7,n+3,layS m D f T v,HST.out.1,HST.out.2.1,by go_num,HST.out.2.2,H7.out.1,H7.out.2.1,H7.out.2.2,HN⟩
    case round=>
     obtain ⟨q,Rq,nq,Dq,hq1,hq2,rfl,hnq,hfi,hkp,hRq,HUP⟩:=hrel
     have y2:=hfi.x2
     have y0:=(hkp.cell (a:=⟨w.heap.size,0,none⟩) HZ6.out (H0.out.old (Nat.le_refl _))).trans u0b
     have HDONE:Hid (∀(w9:World) (R9:Option Nat) (n9:Nat) (D9:List UInt8),n9≤n+27→FiM w9 X F P M R9 room n9 ag xf b c m g d D9→Kp (Tcg P M R g) w6 w9→(∀z,R9=some z→R=some z∨w6.heap.size≤z)→o=some D9→o.isSome=true∧∃R' n',n'≤n+27∧FiM w9 X F P M R' room n' ag xf b c m g d (o.getD D)∧Kp (Tcg P M R g) w w9∧∀j,R'=some j→R=some j∨w.heap.size≤j):=Lib.hid (fun w9 R9 n9 D9 e1 e2 e3 e4 e5=>⟨by rw[e5];rfl,R9,n9,e1,by rw[e5];exact e2,(Kp.of_gr _ HG6.out).trans e3 (fun _ _ e=>e),fun z hz=>(e4 z hz).imp id (fun e=>Nat.le_trans HG6.out.size e)⟩)
     by_cases hlt:q<m.length
     ·
      have hlti:(q:Int)<(m.length:Int):=by omega
      obtain ⟨og,hog⟩:∃og,og=gathS ag xf m Dq q t:=⟨_,rfl⟩
      have hga:=wgathers_any q hlt (by omega) t HTM.out.1 HTM.out.2 (by omega) wr hfi
      rw[←hog] at hga
      have HGA:=Lib.hid hga
      obtain ⟨r,hr⟩:∃r,r=m.length-(q+1):=⟨_,rfl⟩
      have hr1:m.length-q=r+1:=by omega
      have HLE:=Lib.hid (And.intro hq1 (And.intro hlt (And.intro hnq (And.intro hr hr1))))
      have HKP:=Lib.hid (And.intro hkp hRq)
      rw[hr1] at HUP
      cases og with
      | none=>
       have HE:=Lib.hid (show o=some Dq by rw[HUP.out,upS_none hog.symm])
       clear hga hog hr hr1 hq1 hq2 hnq hkp hRq hfi hlt HUP
       go_wp2_with (go_at_call 92;refine HGA.out.mono ?_;rintro e w8 ⟨rfl,R8,n8,hn8,hf8,hk8,hr8⟩;have H8:=Lib.hid (And.intro hn8 (And.intro hf8 (And.intro hk8 hr8)));clear hn8 hf8 hk8 hr8)
       go_ret
       have h9:=HDONE.out w8 R8 n8 Dq (by have:=H8.out.1;have:=HLE.out;omega) H8.out.2.1 (HKP.out.1.trans H8.out.2.2.1 (tcg_sub HKP.out.2)) (fun z hz=>(H8.out.2.2.2 z hz).elim (HKP.out.2 z) (fun e=> .inr (Nat.le_trans HKP.out.1.size e))) HE.out
       exact ⟨ret_b h9.1.symm,h9.2⟩
      | some D8=>
       have HE:Hid (o=some (upS ag xf m t (q+1) (m.length-(q+1)) D8)):=Lib.hid (by rw[HUP.out,upS_some hog.symm,hr])
       clear hga hog hr hr1 hq1 hq2 hnq hkp hRq hfi hlt HUP
       go_wp2_with (go_at_call 92;refine HGA.out.mono ?_;rintro e w8 ⟨rfl,R8,n8,hn8,hf8,hk8,hr8⟩;have H8:=Lib.hid (And.intro hn8 (And.intro hf8 (And.intro hk8 hr8)));clear hn8 hf8 hk8 hr8)
       go_roundw
       case rel=>exact ⟨q+1,R8,n8,D8,by have:=HLE.out.1;omega,HLE.out.2.1,by go_num,by have:=H8.out.1;have:=HLE.out;omega,H8.out.2.1,HKP.out.1.trans H8.out.2.2.1 (tcg_sub HKP.out.2),fun z hz=>(H8.out.2.2.2 z hz).elim (HKP.out.2 z) (fun e=> .inr (Nat.le_trans HKP.out.1.size e)),HE⟩
       case measure=>have:=HLE.out.2.1;simp[intOf];omega
     ·
      have hqe:q=m.length:=by omega
      subst hqe
      have hE:o=some Dq:=by rw[HUP.out,Nat.sub_self];rfl
      have h9:=HDONE.out wr Rq nq Dq (by omega) hfi hkp hRq hE
      have H9:=Lib.hid h9
      clear h9 hE hfi hkp hRq hnq
      go_wp2
      go_ret
      exact ⟨ret_b H9.out.1.symm,H9.out.2⟩
def opS (D:List UInt8):Option (Nat×Nat×Arcs):=match decH D with
 | none=>none
 | some (ag,xf,m)=>if sizeS m=D.length then some (ag,xf,m) else none
theorem decH_may {L:List UInt8} {ag xf:Nat} {m:Arcs} (h:decH L=some (ag,xf,m)):mayH ag xf (ints m)=true:=by
 unfold decH at h
 cases e1:(Nat.ble 1 (numAt L 3)&&Nat.ble (numAt L 3) 8)
 ·
  rw[e1] at h;cases h
 ·
  rw[e1] at h
  cases e2:(Nat.ble (16+12*numAt L 3) L.length&&mayH (numAt L 0) (numAt L 2) (ints (arcsAt L (numAt L 3)))&&(hdrS (numAt L 0) (numAt L 2) (arcsAt L (numAt L 3))).isPrefixOf L)
  ·
   rw[e2] at h;cases h
  ·
   rw[e2] at h
   simp only[cond_true,Option.some.injEq,Prod.mk.injEq] at h
   obtain ⟨h1,h2,h3⟩:=h
   rw[Bool.and_eq_true,Bool.and_eq_true] at e2
   rw[←h1,←h2,←h3]
   exact e2.1.2
theorem opS_of {D:List UInt8} {ag xf:Nat} {m:Arcs} (h:opS D=some (ag,xf,m)):decH D=some (ag,xf,m)∧sizeS m=D.length∧mayH ag xf (ints m)=true:=by
 unfold opS at h
 cases e:decH D with
 | none=>rw[e] at h;cases h
 | some p=>
  obtain ⟨a,x,l⟩:=p
  rw[e] at h
  simp only at h
  split at h
  ·
   rename_i hs
   simp only[Option.some.injEq,Prod.mk.injEq] at h
   obtain ⟨h1,h2,h3⟩:=h
   subst h1 h2 h3
   exact ⟨rfl,hs,decH_may e⟩
  ·
   cases h
theorem own_capM {w:World} {base g:Nat} {e:TypeId} {size n c:Nat} {xs:List Value} (h:w.ownsRow base e size (.slice (some ⟨g,0,none⟩) n c) n xs):(c:Int)≤9223372036854775807:=by
 obtain ⟨h1,⟨hv,h0⟩|⟨g',cap,cur,hv,hb,hh,h2,h3,h4,h5⟩⟩:=h
 ·
  cases hv
 ·
  injection hv with _ _ hv3
  subst hv3
  unfold maxLen at h3
  omega
theorem own_base0 {w:World} {base:Nat} {e:TypeId} {size n:Nat} {v:Value} {xs:List Value} (h:w.ownsRow base e size v n xs):w.ownsRow 0 e size v n xs:=by
 obtain ⟨h1,h|⟨g',cap,cur,hv,hb,h2⟩⟩:=h
 ·
  exact ⟨h1, .inl h⟩
 ·
  exact ⟨h1, .inr ⟨g',cap,cur,hv,Nat.zero_le _,h2⟩⟩
theorem FsM.more2 {Y:Nat→Prop} {w w':World} {F P M g:Nat} {R:Option Nat} {room:Int} {n:Nat} {D:Option (List UInt8)} (h:FsM Y w F P M R room n D) (k:Gr w w') (hg:w.heap.size≤g∧g<w'.heap.size):FsM (fun k=>k=g) w' F P M R room n D:=
 h.more k (fun q e=> .inr (by rw[e];exact hg.1)) (fun q e=>by rw[e];exact hg.2)
def RetOp (w:World) (F P M:Nat) (R:Option Nat) (room:Int) (n:Nat) (D:List UInt8) (o:Option (Nat×Nat×Arcs)) (e:Ending) (w':World):Prop:=
 Gr w w'∧match o with
  | none=>e= .returned (.tuple #[.pointer none, .int .i64 2])
  | some (ag,xf,m)=>∃X b c g d,e= .returned (.tuple #[.pointer (some ⟨X,0,none⟩), .int .i64 0])∧FiM w' X F P M R room n ag xf b c m g d D∧w.heap.size≤g
theorem isNow_any (t:Int) (w:World):Calls Tryz.prog 57 #[.int .i64 t] w fun e w'=>e= .returned (.bool (decide (1≤t)&&decide (t≤4294967295)))∧w=w':=by
 by_cases h1:1≤t
 ·
  by_cases h2:t≤4294967295
  ·
   have HD:Hid ((decide (1≤t)&&decide (t≤4294967295))=true):=Lib.hid (by rw[decide_eq_true h1,decide_eq_true h2];rfl)
   go_enter Tryz.func57,Tryz.ntmps57
   go_wp2
   go_ret
   exact ⟨ret_b HD.out.symm,rfl⟩
  ·
   have HD:Hid ((decide (1≤t)&&decide (t≤4294967295))=false):=Lib.hid (by rw[decide_eq_false h2,Bool.and_false])
   go_enter Tryz.func57,Tryz.ntmps57
   go_wp2
   go_ret
   exact ⟨ret_b (by first|exact HD.out.symm|(have h:=HD.out;rw[decide_eq_true h1,Bool.true_and] at h;exact h.symm)),rfl⟩
 ·
  have HD:Hid ((decide (1≤t)&&decide (t≤4294967295))=false):=Lib.hid (by rw[decide_eq_false h1,Bool.false_and])
  go_enter Tryz.func57,Tryz.ntmps57
  go_wp2
  go_ret
  exact ⟨ret_b (by first|exact HD.out.symm|(have h:=HD.out;simp at h ⊢;omega)),rfl⟩
theorem open_any {Y:Nat→Prop} {F P M:Nat} {R:Option Nat} {room:Int} {n:Nat} (D:List UInt8) (hD:(D.length:Int)≤1073741824) (w:World) (h:FsM Y w F P M R room n (some D)):Calls Tryz.prog 44 #[.pointer (some ⟨F,0,none⟩), .string nmA] w (RetOp w F P M R room n D (opS D)):=by
 have HSI:=Lib.hid (fsize_some w h)
 have HRD:=Lib.hid (read_gen hD w h)
 have H0:=Lib.hid h
 have HD:=Lib.hid hD
 obtain ⟨oo,hoo⟩:∃oo,oo=opS D:=⟨_,rfl⟩
 rw[←hoo]
 cases hde:decH D with
 | none=>
  have HDE:=Lib.hid hde
  have ho:oo=none:=by rw[hoo];unfold opS;rw[hde]
  subst ho
  clear h hde hoo
  go_enter Tryz.func44,Tryz.ntmps44
  go_wp2_with (first|(go_at_call 40;refine HSI.out.mono ?_;rintro e w1 ⟨rfl,rfl⟩)|(go_at_call 41;refine HRD.out.mono ?_;rintro e w2 ⟨A2,d,rfl,hd,hdm, -,hr,hbk,g2⟩;obtain ⟨g,hgA,hgl⟩:=hbk.dec (Nat.lt_of_lt_of_le H0.out.lf g2.size);have HO2:=Lib.hid (And.intro hd (And.intro hdm (And.intro hr (And.intro g2 (And.intro hgA hgl)))));clear hr g2 hd hdm hbk hgA hgl)|(go_at_call 81;refine (hdecode_any w2 A2 g d D HO2.out.2.2.2.2.1 HO2.out.2.2.2.2.2 HD.out HO2.out.1 HO2.out.2.1 HO2.out.2.2.1).mono ?_;rintro e w3 ⟨g3,h3⟩;rw[HDE.out] at h3;simp only at h3;subst h3;have HG:=Lib.hid (HO2.out.2.2.2.1.trans g3);clear g3))
  go_ret2
  exact ⟨HG.out.alloc _,rfl⟩
 | some p=>
  have h0:0<D.length:=by
   cases D with
   | nil=>rw[show decH []=none from by kernel_rfl] at hde;cases hde
   | cons x r=>simp
  have HRD:=Lib.hid (read_all h0 hD w h)
  obtain ⟨ag,xf,m⟩:=p
  have hM:=decH_may hde
  have hF:=MayF.ofH hM
  have hsz:=hF.sz
  have ho:oo=if sizeS m=D.length then some (ag,xf,m) else none:=by rw[hoo];unfold opS;rw[hde]
  have HDE:=Lib.hid hde
  have HM:=Lib.hid (And.intro hM hF)
  have hszi:(sizeS m:Int)≤1048576:=by omega
  clear h hde hoo hM hF hsz
  go_enter Tryz.func44,Tryz.ntmps44
  go_upto_region 10 with (first|(go_at_call 40;refine HSI.out.mono ?_;rintro e w1 ⟨rfl,rfl⟩)|(go_at_call 41;refine HRD.out.mono ?_;rintro e w2 ⟨g,d,rfl,hd,ho,g2⟩;have HO2:=Lib.hid (And.intro hd (And.intro ho g2));have hgl:=ho.lt g rfl;clear ho g2 hd)|(go_at_call 81;refine (hdecode_any w2 (some ⟨g,0,none⟩) g d D (fun _=>rfl) hgl.2 HD.out HO2.out.1 (own_capM HO2.out.2.1) (Rb.own HO2.out.2.1)).mono ?_;rintro e w3 ⟨g3,h3⟩;rw[HDE.out] at h3;obtain ⟨A,c,rfl,hc,hri,hab,hfr⟩:=h3;obtain ⟨b,rfl⟩:=hab (by have:=HM.out.2.l1;omega);have hbl:=(hri.rows (by rw[ints_len];have:=HM.out.2.l1;omega)).1;have HB:=Lib.hid (And.intro hc (And.intro hri (hfr _ rfl)));have HG:=Lib.hid (HO2.out.2.2.trans g3);have HG3:=Lib.hid g3;clear hc hri hfr g3))
  obtain ⟨V,hV⟩:∃V,V=w3.alloc (.cells #[.int .i64 ag, .int .i64 xf, .slice (some ⟨b,0,none⟩) m.length c] 24):=⟨_,rfl⟩
  have gV:Gr w3 V:=by rw[hV];exact Gr.alloc (Gr.refl w3) _
  have hz:w3.heap.size<V.heap.size:=by rw[hV];simp
  have c0:V.cell? ⟨w3.heap.size,0,none⟩=some (.int .i64 ag):=by rw[hV];go_simp
  have c1:V.cell? ⟨w3.heap.size,1,none⟩=some (.int .i64 xf):=by rw[hV];go_simp
  have c2:V.cell? ⟨w3.heap.size,2,none⟩=some (.slice (some ⟨b,0,none⟩) m.length c):=by rw[hV];go_simp
  have hss:=hsize_any ag xf (some ⟨b,0,none⟩) c (ints m) (by rw[ints_len];have:=HM.out.2.l8;omega) V (HB.out.2.1.gr gV)
  rw[HM.out.1,nats_ints,ints_len] at hss
  have HSS:=Lib.hid hss
  have HGV:=Lib.hid (And.intro gV (HG.out.trans gV))
  have hzw:=HG.out.size
  rw[←hV]
  clear hV gV hss
  by_cases hsd:sizeS m=D.length
  ·
   rw[if_pos hsd] at ho
   have hne:((sizeS m:Int) != (D.length:Int))=false:=by rw[hsd];simp
   have HSD:=Lib.hid hsd
   subst ho
   clear hsd
   go_wp2_with (go_at_call 32;refine HSS.out.mono ?_;rintro e w5 ⟨rfl,g5⟩;have d0:=(Below.cell g5 (p:=⟨w3.heap.size,0,none⟩) hz).trans c0;have d1:=(Below.cell g5 (p:=⟨w3.heap.size,1,none⟩) hz).trans c1;have d2:=(Below.cell g5 (p:=⟨w3.heap.size,2,none⟩) hz).trans c2;have HG5:=Lib.hid (And.intro (HGV.out.1.trans g5) (HGV.out.2.trans g5));clear g5)
   go_ret2
   obtain ⟨Z,hZ⟩:∃Z,Z=w5.alloc (.cells #[.int .i64 ag, .int .i64 xf, .slice (some ⟨b,0,none⟩) m.length c, .pointer (some ⟨F,0,none⟩), .string nmA, .slice (some ⟨g,0,none⟩) D.length d] 104):=⟨_,rfl⟩
   have gZ:Gr w5 Z:=by rw[hZ];exact Gr.alloc (Gr.refl w5) _
   have x0:Z.cell? ⟨w5.heap.size,0,none⟩=some (.int .i64 ag):=by rw[hZ];go_simp
   have x1:Z.cell? ⟨w5.heap.size,1,none⟩=some (.int .i64 xf):=by rw[hZ];go_simp
   have x2:Z.cell? ⟨w5.heap.size,2,none⟩=some (.slice (some ⟨b,0,none⟩) m.length c):=by rw[hZ];go_simp
   have x3:Z.cell? ⟨w5.heap.size,3,none⟩=some (.pointer (some ⟨F,0,none⟩)):=by rw[hZ];go_simp
   have x4:Z.cell? ⟨w5.heap.size,4,none⟩=some (.string nmA):=by rw[hZ];go_simp
   have x5:Z.cell? ⟨w5.heap.size,5,none⟩=some (.slice (some ⟨g,0,none⟩) D.length d):=by rw[hZ];go_simp
   have hzZ:w5.heap.size<Z.heap.size:=by rw[hZ];simp
   rw[←hZ]
   have g3Z:=HG5.out.1.trans gZ
   have gwZ:=HG5.out.2.trans gZ
   have g2Z:Gr w2 Z:=HG3.out.trans g3Z
   have lf:=H0.out.lf
   have lp:=H0.out.lp
   have lm:=H0.out.lm
   have hrn:∀q,w.heap.size≤q→R≠some q:=fun q hq e=>by
    obtain ⟨v,xs, -,v2,v3⟩:=H0.out.p0
    have:=(v3.lt q (by rw[v2];exact e)).2
    omega
   have hw25:w.heap.size≤w5.heap.size:=HG5.out.2.size
   have h2:w.heap.size≤w2.heap.size:=HO2.out.2.2.size
   have h25:w2.heap.size≤w5.heap.size:=(HG3.out.trans HG5.out.1).size
   have hb3:w3.heap.size≤w5.heap.size:=HG5.out.1.size
   have hbf:w2.heap.size≤b:=HB.out.2.2
   refine ⟨gwZ,w5.heap.size,b,c,g,d,rfl,⟨hzZ,by omega,by omega,x0,x1,x2,x3,x4,x5,HM.out.1,HB.out.1,HSD.out.symm,HB.out.2.1.gr g3Z,own_base0 (own_grU HO2.out.2.1 g2Z),H0.out.more2 gwZ (by omega),⟨by omega,by omega,by omega,by omega,hrn _ hw25⟩,⟨by omega,by omega,by omega,by omega,hrn _ (by omega)⟩,⟨by omega,by omega,by omega,hrn _ hgl.1⟩⟩,hgl.1⟩
  ·
   rw[if_neg hsd] at ho
   have hne:((sizeS m:Int) != (D.length:Int))=true:=by simp;omega
   subst ho
   clear hsd
   go_wp2_with (go_at_call 32;refine HSS.out.mono ?_;rintro e w5 ⟨rfl,g5⟩;have HG5:=Lib.hid (HGV.out.2.trans g5);clear g5)
   go_ret2
   exact ⟨HG5.out,rfl⟩
end Go.Proofs.YtoncapkmaeghfaaGreat
