import Derived.Test.YtoncapkmaeghfaaGreatRunRwDec
import Derived.Test.YtoncapkmaeghfaaGreatRunWhWri
import Derived.Test.YtoncapkmaeghfaaGreatRunVfFs
set_option linter.all false
set_option maxRecDepth 1000000
set_option maxHeartbeats 12800000
namespace Go.Proofs.YtoncapkmaeghfaaGreat
open Go.RowKit
section
variable {P:Program} {w:World}
theorem Rd.none_pos {w:World} {size n:Nat} {ad:Addr} {xs:List Value} (h:Rd w size (some ad) n xs) (hn:0<n):ad.block<w.heap.size∧∀j u,xs[j]?=some u→w.cell? (ad.add j)=some u:=by
 obtain ⟨ad',e,hb,hc⟩:=h.2 hn
 injection e with e
 subst e
 exact ⟨hb,hc⟩
theorem wp_append_e {o:Oper} {a:Act} {Q:Exit→Act→World→Prop} {K:Act→World→Prop} (s x:Operand) (t:TypeId)
  (ho:o.op= .call {callee:= .builtin .append,args:= #[s,x],argTypes:= #[t,t]})
  (e:TypeId) (i:TypeInfo) (z:Value) (size bytes:Nat) (ht:P.underlying t=some (.slice e)) (hi:P.info? e=some i) (hz:i.zero=some z)
  (hsize:i.size=size) (hby:i.bytes=bytes) (hzs:z.cells.size=size) (hsz:0<size)
  (q:Addr) (hs:a.eval s= .slice (some q) 0 0) (ad:Addr) (m c:Nat) (news:List Value) (hx:a.eval x= .slice (some ad) m c) (hm:0<m) (hr:Rd w size (some ad) m news)
  (h63:m≤maxLen) (hbytes:m*bytes≤140737488355328)
  (h:∀cap w',w'.ownsRow w.heap.size e size (.slice (some ⟨w.heap.size,0,none⟩) m cap) m news→Gr w w'→K (a.put o.dst (.slice (some ⟨w.heap.size,0,none⟩) m cap)) w'):Oper.wp P o a w K Q:=by
 subst hsize
 subst hby
 have hsmall:m≤9223372036854775807:=by simp only[maxLen] at h63;omega
 have hrun:=run_append_grow (P:=P) w t o.type e i z ht hi hz q 0 0 [] (by simp) (fun j u hu=>by simp at hu) ad m c news hr.1 (hr.none_pos hm).2 (by omega) (by omega) (growslice_fits (by omega) (by rw[Nat.zero_add];exact hbytes))
 have hge:=grownCap_ge w m 0 e
 have hcm:grownCap w m 0 e≤maxLen:=grownCap_le_maxLen w m 0 e h63
 unfold Oper.wp execOp
 simp only[ho,resolve,invoke,builtin,Sem.run_bind,Sem.run_pure,Result.andThen_ok,List.map_toArray,List.map_cons,List.map_nil,hs,hx,hrun]
 simp only[Nat.zero_add]
 refine h _ _ ⟨hr.1, .inr ⟨w.heap.size,_,_,rfl,Nat.le_refl _,heap_alloc_new w.drew _,hge,hcm,?_,?_⟩⟩ (Gr.alloc (Gr.drew (Gr.refl w)) _)
 ·
  simp only[Array.size_append,List.size_toArray,size_zeroCells,hzs,List.length_nil,hr.1]
  rw[Nat.zero_add,←Nat.add_mul]
  congr 1
  omega
 ·
  simp only[Array.toList_append,List.nil_append]
  rw[←hr.1]
  exact List.take_left
end
theorem four_nil (W:World):Rb (W.alloc (.cells #[.int .u8 0, .int .u8 0, .int .u8 0, .int .u8 0] 5)) (some ⟨W.heap.size,0,none⟩) [0,0,0,0]:=Rd.newU (W:=W) (n:=4) (size:=1) rfl 5 (bys [0,0,0,0]) rfl
theorem xwri_any (t n:Int) (hn: -9223372036854775808≤n) (hn':n≤9223372036854775807) (w:World):Calls Tryz.prog 61 #[.agg #[.int .i64 t, .int .i64 n]] w (RetWr t n w):=by
 obtain ⟨i0,hi0,hz0,hz1,hz2⟩:=info_parts info_u8R
 have HE:=Lib.hid (fun W=>xenc_any t n hn hn' W)
 obtain ⟨bs,hbs⟩:∃bs,bs=encP t n:=⟨_,rfl⟩
 have hl:bs.length=12:=by rw[hbs];exact encP_len t n
 rw[←hbs] at HE
 have HD:Hid (bs.take 4=beB (at4 t) 4∧bs.drop 4=beB (u64 n) 8):=Lib.hid (by
  rw[hbs]
  unfold encP
  exact ⟨List.take_left' (beB_len _ _),List.drop_left' (beB_len _ _)⟩)
 clear hbs hn hn'
 go_enter Tryz.func61,Tryz.ntmps61
 go_upto_region 2 with (go_at_call 93;refine (HE.out _).mono ?_;rintro e w1 ⟨A,cp,rfl,hcp,hR0,g1⟩;have hR:Rb w1 A bs:=Rb.own hR0;clear hR0)
 obtain ⟨ad,rfl,hadb, -⟩:=hR.2 (by omega)
 have hcpi:(12:Int)≤(cp:Int):=by omega
 have hc4:(4:Int)≤(cp:Int):=by omega
 have hne4:¬cp=4:=by omega
 have hne4b:¬cp≤4:=by omega
 refine wp_region_Z 10 (fun W=>Rb W (some ad) bs) (by kernel_rfl) ?_
 obtain ⟨V,hV⟩:∃V,V=w1.drew:=⟨_,rfl⟩
 have hS0:Rb V (some ad) bs:=by rw[hV];exact hR.gr (Gr.drew (Gr.refl w1))
 have GV:Hid (Gr w V):=Lib.hid (by rw[hV];exact ((Gr.alloc (Gr.refl w) _).trans g1).drew)
 have gr0:Gr V V:=Gr.refl V
 rw[←hV]
 clear hV g1 hR hadb
 refine zu 2 rfl hS0 (fun W hS=>by go_simp;rfl) ?_
 refine zu 3 rfl hS0 (fun W hS=>by go_simp;rfl) ?_
 refine zu 6 rfl hS0 (fun W hS=>by go_simp;rfl) ?_
 refine zu 7 rfl hS0 (fun W hS=>by go_simp;rfl) ?_
 refine wpAnyZ_ready (rs:=[0,1,5]) (by kernel_rfl) (by simp) ?_
 refine AllReadyZ.cons (i:=0) rfl (by kernel_rfl) ?zx825 (AllReadyZ.cons (i:=1) rfl (by kernel_rfl) ?zx826 (AllReadyZ.cons (i:=5) rfl (by kernel_rfl) ?zx827 AllReadyZ.nil))
 ·
  intro K hK
  simp only[List.getElem_toArray,List.getElem_cons_succ,List.getElem_cons_zero]
  go_simp
  obtain ⟨w1,hw1⟩:∃w1,w1=V.alloc (.cells #[.int .u8 0, .int .u8 0, .int .u8 0, .int .u8 0] 5):=⟨_,rfl⟩
  have k3:Gr V w1:=by rw[hw1];exact Gr.alloc (Gr.refl _) _
  have r5:Rbf V.heap.size w1 (some ⟨V.heap.size,0,none⟩) [0,0,0,0]:=⟨by rw[hw1];exact four_nil _,fun ad e=>by injection e with e;subst e;exact gr0.size⟩
  rw[←hw1]
  clear hw1
  have g2:=Gr.trans gr0 k3
  have s4:=Rb.gr hS0 k3
  refine hK.out _ _ (fun hnz=>?zs6) (fun _=>?zr7)
  case zs6=>exact s4
  clear hK K
  try (simp only[Pu,List.getElem_toArray,List.getElem_cons_succ,List.getElem_cons_zero])
  refine wpAnyZ_ready (rs:=[1,5]) (by kernel_rfl) (by simp) ?_
  refine AllReadyZ.cons (i:=1) rfl (by kernel_rfl) ?zx179 (AllReadyZ.cons (i:=5) rfl (by kernel_rfl) ?zx180 AllReadyZ.nil)
  ·
   intro K hK
   simp only[List.getElem_toArray,List.getElem_cons_succ,List.getElem_cons_zero]
   go_simp
   obtain ⟨w8,hw8⟩:∃w8,w8=w1.alloc (.cells #[] 5):=⟨_,rfl⟩
   have k10:Gr w1 w8:=by rw[hw8];exact Gr.alloc (Gr.refl _) _
   rw[←hw8]
   clear hw8
   have g9:=Gr.trans g2 k10
   have s11:=Rb.gr s4 k10
   have r12:=r5.gr k10
   refine hK.out _ _ (fun hnz=>?zs13) (fun _=>?zr14)
   case zs13=>exact s11
   clear hK K
   try (simp only[Pu,List.getElem_toArray,List.getElem_cons_succ,List.getElem_cons_zero])
   refine wpAnyZ_ready (rs:=[4,5]) (by kernel_rfl) (by simp) ?_
   refine AllReadyZ.cons (i:=4) rfl (by kernel_rfl) ?zx118 (AllReadyZ.cons (i:=5) rfl (by kernel_rfl) ?zx119 AllReadyZ.nil)
   ·
    intro K hK
    simp only[List.getElem_toArray,List.getElem_cons_succ,List.getElem_cons_zero]
    refine wp_append_e (.tmp 7) (.tmp 9) 49 rfl 5 i0 _ 1 1 Tryz.underlying49 hi0 hz0 hz1 hz2 rfl (by decide) ⟨w1.heap.size,0,none⟩ rfl (ad.add 4) 8 (cp-4) (bys (bs.drop 4)) rfl (by decide) (Rb.drop4 hl s11) (by unfold maxLen;omega) (by omega) ?_
    intro c21 w15 o22 k17
    have r20:Rbf V.heap.size w15 (some ⟨w8.heap.size,0,none⟩) (bs.drop 4):=⟨Rb.own o22,fun ad e=>by injection e with e;subst e;exact g9.size⟩
    have g16:=Gr.trans g9 k17
    have s18:=Rb.gr s11 k17
    clear o22
    have r19:=r12.gr k17
    refine hK.out _ _ (fun hnz=>?zs23) (fun _=>?zr24)
    case zs23=>exact s18
    clear hK K
    try (simp only[Pu,List.getElem_toArray,List.getElem_cons_succ,List.getElem_cons_zero])
    refine wpAnyZ_ready (rs:=[5]) (by kernel_rfl) (by simp) ?_
    refine AllReadyZ.cons (i:=5) rfl (by kernel_rfl) ?zx66 AllReadyZ.nil
    intro K hK
    simp only[List.getElem_toArray,List.getElem_cons_succ,List.getElem_cons_zero]
    go_simp
    obtain ⟨w25,hw25⟩:∃w25,w25=w15.alloc (.cells #[] 5):=⟨_,rfl⟩
    have k27:Gr w15 w25:=by rw[hw25];exact Gr.alloc (Gr.refl _) _
    rw[←hw25]
    clear hw25
    have g26:=Gr.trans g16 k27
    have s28:=Rb.gr s18 k27
    have r29:=r19.gr k27
    have r30:=r20.gr k27
    refine hK.out _ _ (fun hnz=>?zs31) (fun _=>?zr32)
    case zs31=>exact s28
    clear hK K
    try (simp only[Pu,List.getElem_toArray,List.getElem_cons_succ,List.getElem_cons_zero])
    refine wpAnyZ_ready (rs:=[8]) (by kernel_rfl) (by simp) ?_
    refine AllReadyZ.cons (i:=8) rfl (by kernel_rfl) ?zx65 AllReadyZ.nil
    intro K hK
    simp only[List.getElem_toArray,List.getElem_cons_succ,List.getElem_cons_zero]
    refine wp_append_e (.tmp 11) (.tmp 13) 49 rfl 5 i0 _ 1 1 Tryz.underlying49 hi0 hz0 hz1 hz2 rfl (by decide) ⟨w15.heap.size,0,none⟩ rfl ad 4 cp (bys (bs.take 4)) rfl (by decide) (Rb.take4 hl s28) (by unfold maxLen;omega) (by omega) ?_
    intro c40 w33 o41 k35
    have r39:Rbf V.heap.size w33 (some ⟨w25.heap.size,0,none⟩) (bs.take 4):=⟨Rb.own o41,fun ad e=>by injection e with e;subst e;exact g26.size⟩
    have g34:=Gr.trans g26 k35
    have s36:=Rb.gr s28 k35
    clear o41
    have r37:=r29.gr k35
    have r38:=r30.gr k35
    refine hK.out _ _ (fun hnz=>?zs42) (fun _=>?zr43)
    case zs42=>exact s36
    clear hK K
    try (simp only[Pu,List.getElem_toArray,List.getElem_cons_succ,List.getElem_cons_zero])
    refine wpAnyZ_ready (rs:=[9]) (by kernel_rfl) (by simp) ?_
    refine AllReadyZ.cons (i:=9) rfl (by kernel_rfl) ?zx64 AllReadyZ.nil
    intro K hK
    simp only[List.getElem_toArray,List.getElem_cons_succ,List.getElem_cons_zero]
    go_simp
    obtain ⟨w44,hw44⟩:∃w44,w44=w33.alloc (.cells #[(.slice (some ⟨V.heap.size,0,none⟩) 4 4),(.slice (some ⟨w8.heap.size,0,none⟩) 8 c21),(.slice (some ⟨w25.heap.size,0,none⟩) 4 c40)] 49):=⟨_,rfl⟩
    have k46:Gr w33 w44:=by rw[hw44];exact Gr.alloc (Gr.refl _) _
    have q51:=And.intro (three_new (w:=w33) hw44) g34.size
    rw[←hw44]
    clear hw44
    have g45:=Gr.trans g34 k46
    have s47:=Rb.gr s36 k46
    have r48:=r37.gr k46
    have r49:=r38.gr k46
    have r50:=r39.gr k46
    refine hK.out _ _ (fun hnz=>?zs52) (fun _=>?zr53)
    case zs52=>exact s47
    clear hK K
    try (simp only[Pu,List.getElem_toArray,List.getElem_cons_succ,List.getElem_cons_zero])
    refine wpAnyZ_ready (rs:=[10]) (by kernel_rfl) (by simp) ?_
    refine AllReadyZ.cons (i:=10) rfl (by kernel_rfl) ?zx63 AllReadyZ.nil
    intro K hK
    simp only[List.getElem_toArray,List.getElem_cons_succ,List.getElem_cons_zero]
    go_simp
    refine hK.out _ _ (fun hnz=>?zs61) (fun _=>?zr62)
    case zs61=>exact absurd rfl hnz
    clear hK K
    try (simp only[Pu,List.getElem_toArray,List.getElem_cons_succ,List.getElem_cons_zero])
    refine wpAnyZ_done (by kernel_rfl) ?_ _
    go_wp2
    go_ret
    exact RetWr.of GV.out.size HD.out q51 r48 r49 r50 (Gr.trans GV.out g45)
   ·
    intro K hK
    simp only[List.getElem_toArray,List.getElem_cons_succ,List.getElem_cons_zero]
    go_simp
    obtain ⟨w67,hw67⟩:∃w67,w67=w8.alloc (.cells #[] 5):=⟨_,rfl⟩
    have k69:Gr w8 w67:=by rw[hw67];exact Gr.alloc (Gr.refl _) _
    rw[←hw67]
    clear hw67
    have g68:=Gr.trans g9 k69
    have s70:=Rb.gr s11 k69
    have r71:=r12.gr k69
    refine hK.out _ _ (fun hnz=>?zs72) (fun _=>?zr73)
    case zs72=>exact s70
    clear hK K
    try (simp only[Pu,List.getElem_toArray,List.getElem_cons_succ,List.getElem_cons_zero])
    refine wpAnyZ_ready (rs:=[4]) (by kernel_rfl) (by simp) ?_
    refine AllReadyZ.cons (i:=4) rfl (by kernel_rfl) ?zx117 AllReadyZ.nil
    intro K hK
    simp only[List.getElem_toArray,List.getElem_cons_succ,List.getElem_cons_zero]
    refine wp_append_e (.tmp 7) (.tmp 9) 49 rfl 5 i0 _ 1 1 Tryz.underlying49 hi0 hz0 hz1 hz2 rfl (by decide) ⟨w1.heap.size,0,none⟩ rfl (ad.add 4) 8 (cp-4) (bys (bs.drop 4)) rfl (by decide) (Rb.drop4 hl s70) (by unfold maxLen;omega) (by omega) ?_
    intro c80 w74 o81 k76
    have r79:Rbf V.heap.size w74 (some ⟨w67.heap.size,0,none⟩) (bs.drop 4):=⟨Rb.own o81,fun ad e=>by injection e with e;subst e;exact g68.size⟩
    have g75:=Gr.trans g68 k76
    have s77:=Rb.gr s70 k76
    clear o81
    have r78:=r71.gr k76
    refine hK.out _ _ (fun hnz=>?zs82) (fun _=>?zr83)
    case zs82=>exact s77
    clear hK K
    try (simp only[Pu,List.getElem_toArray,List.getElem_cons_succ,List.getElem_cons_zero])
    refine wpAnyZ_ready (rs:=[8]) (by kernel_rfl) (by simp) ?_
    refine AllReadyZ.cons (i:=8) rfl (by kernel_rfl) ?zx116 AllReadyZ.nil
    intro K hK
    simp only[List.getElem_toArray,List.getElem_cons_succ,List.getElem_cons_zero]
    refine wp_append_e (.tmp 11) (.tmp 13) 49 rfl 5 i0 _ 1 1 Tryz.underlying49 hi0 hz0 hz1 hz2 rfl (by decide) ⟨w8.heap.size,0,none⟩ rfl ad 4 cp (bys (bs.take 4)) rfl (by decide) (Rb.take4 hl s77) (by unfold maxLen;omega) (by omega) ?_
    intro c91 w84 o92 k86
    have r90:Rbf V.heap.size w84 (some ⟨w74.heap.size,0,none⟩) (bs.take 4):=⟨Rb.own o92,fun ad e=>by injection e with e;subst e;exact g75.size⟩
    have g85:=Gr.trans g75 k86
    have s87:=Rb.gr s77 k86
    clear o92
    have r88:=r78.gr k86
    have r89:=r79.gr k86
    refine hK.out _ _ (fun hnz=>?zs93) (fun _=>?zr94)
    case zs93=>exact s87
    clear hK K
    try (simp only[Pu,List.getElem_toArray,List.getElem_cons_succ,List.getElem_cons_zero])
    refine wpAnyZ_ready (rs:=[9]) (by kernel_rfl) (by simp) ?_
    refine AllReadyZ.cons (i:=9) rfl (by kernel_rfl) ?zx115 AllReadyZ.nil
    intro K hK
    simp only[List.getElem_toArray,List.getElem_cons_succ,List.getElem_cons_zero]
    go_simp
    obtain ⟨w95,hw95⟩:∃w95,w95=w84.alloc (.cells #[(.slice (some ⟨V.heap.size,0,none⟩) 4 4),(.slice (some ⟨w67.heap.size,0,none⟩) 8 c80),(.slice (some ⟨w74.heap.size,0,none⟩) 4 c91)] 49):=⟨_,rfl⟩
    have k97:Gr w84 w95:=by rw[hw95];exact Gr.alloc (Gr.refl _) _
    have q102:=And.intro (three_new (w:=w84) hw95) g85.size
    rw[←hw95]
    clear hw95
    have g96:=Gr.trans g85 k97
    have s98:=Rb.gr s87 k97
    have r99:=r88.gr k97
    have r100:=r89.gr k97
    have r101:=r90.gr k97
    refine hK.out _ _ (fun hnz=>?zs103) (fun _=>?zr104)
    case zs103=>exact s98
    clear hK K
    try (simp only[Pu,List.getElem_toArray,List.getElem_cons_succ,List.getElem_cons_zero])
    refine wpAnyZ_ready (rs:=[10]) (by kernel_rfl) (by simp) ?_
    refine AllReadyZ.cons (i:=10) rfl (by kernel_rfl) ?zx114 AllReadyZ.nil
    intro K hK
    simp only[List.getElem_toArray,List.getElem_cons_succ,List.getElem_cons_zero]
    go_simp
    refine hK.out _ _ (fun hnz=>?zs112) (fun _=>?zr113)
    case zs112=>exact absurd rfl hnz
    clear hK K
    try (simp only[Pu,List.getElem_toArray,List.getElem_cons_succ,List.getElem_cons_zero])
    refine wpAnyZ_done (by kernel_rfl) ?_ _
    go_wp2
    go_ret
    exact RetWr.of GV.out.size HD.out q102 r99 r100 r101 (Gr.trans GV.out g96)
  ·
   intro K hK
   simp only[List.getElem_toArray,List.getElem_cons_succ,List.getElem_cons_zero]
   go_simp
   obtain ⟨w120,hw120⟩:∃w120,w120=w1.alloc (.cells #[] 5):=⟨_,rfl⟩
   have k122:Gr w1 w120:=by rw[hw120];exact Gr.alloc (Gr.refl _) _
   rw[←hw120]
   clear hw120
   have g121:=Gr.trans g2 k122
   have s123:=Rb.gr s4 k122
   have r124:=r5.gr k122
   refine hK.out _ _ (fun hnz=>?zs125) (fun _=>?zr126)
   case zs125=>exact s123
   clear hK K
   try (simp only[Pu,List.getElem_toArray,List.getElem_cons_succ,List.getElem_cons_zero])
   refine wpAnyZ_ready (rs:=[1]) (by kernel_rfl) (by simp) ?_
   refine AllReadyZ.cons (i:=1) rfl (by kernel_rfl) ?zx178 AllReadyZ.nil
   intro K hK
   simp only[List.getElem_toArray,List.getElem_cons_succ,List.getElem_cons_zero]
   go_simp
   obtain ⟨w127,hw127⟩:∃w127,w127=w120.alloc (.cells #[] 5):=⟨_,rfl⟩
   have k129:Gr w120 w127:=by rw[hw127];exact Gr.alloc (Gr.refl _) _
   rw[←hw127]
   clear hw127
   have g128:=Gr.trans g121 k129
   have s130:=Rb.gr s123 k129
   have r131:=r124.gr k129
   refine hK.out _ _ (fun hnz=>?zs132) (fun _=>?zr133)
   case zs132=>exact s130
   clear hK K
   try (simp only[Pu,List.getElem_toArray,List.getElem_cons_succ,List.getElem_cons_zero])
   refine wpAnyZ_ready (rs:=[4]) (by kernel_rfl) (by simp) ?_
   refine AllReadyZ.cons (i:=4) rfl (by kernel_rfl) ?zx177 AllReadyZ.nil
   intro K hK
   simp only[List.getElem_toArray,List.getElem_cons_succ,List.getElem_cons_zero]
   refine wp_append_e (.tmp 7) (.tmp 9) 49 rfl 5 i0 _ 1 1 Tryz.underlying49 hi0 hz0 hz1 hz2 rfl (by decide) ⟨w120.heap.size,0,none⟩ rfl (ad.add 4) 8 (cp-4) (bys (bs.drop 4)) rfl (by decide) (Rb.drop4 hl s130) (by unfold maxLen;omega) (by omega) ?_
   intro c140 w134 o141 k136
   have r139:Rbf V.heap.size w134 (some ⟨w127.heap.size,0,none⟩) (bs.drop 4):=⟨Rb.own o141,fun ad e=>by injection e with e;subst e;exact g128.size⟩
   have g135:=Gr.trans g128 k136
   have s137:=Rb.gr s130 k136
   clear o141
   have r138:=r131.gr k136
   refine hK.out _ _ (fun hnz=>?zs142) (fun _=>?zr143)
   case zs142=>exact s137
   clear hK K
   try (simp only[Pu,List.getElem_toArray,List.getElem_cons_succ,List.getElem_cons_zero])
   refine wpAnyZ_ready (rs:=[8]) (by kernel_rfl) (by simp) ?_
   refine AllReadyZ.cons (i:=8) rfl (by kernel_rfl) ?zx176 AllReadyZ.nil
   intro K hK
   simp only[List.getElem_toArray,List.getElem_cons_succ,List.getElem_cons_zero]
   refine wp_append_e (.tmp 11) (.tmp 13) 49 rfl 5 i0 _ 1 1 Tryz.underlying49 hi0 hz0 hz1 hz2 rfl (by decide) ⟨w1.heap.size,0,none⟩ rfl ad 4 cp (bys (bs.take 4)) rfl (by decide) (Rb.take4 hl s137) (by unfold maxLen;omega) (by omega) ?_
   intro c151 w144 o152 k146
   have r150:Rbf V.heap.size w144 (some ⟨w134.heap.size,0,none⟩) (bs.take 4):=⟨Rb.own o152,fun ad e=>by injection e with e;subst e;exact g135.size⟩
   have g145:=Gr.trans g135 k146
   have s147:=Rb.gr s137 k146
   clear o152
   have r148:=r138.gr k146
   have r149:=r139.gr k146
   refine hK.out _ _ (fun hnz=>?zs153) (fun _=>?zr154)
   case zs153=>exact s147
   clear hK K
   try (simp only[Pu,List.getElem_toArray,List.getElem_cons_succ,List.getElem_cons_zero])
   refine wpAnyZ_ready (rs:=[9]) (by kernel_rfl) (by simp) ?_
   refine AllReadyZ.cons (i:=9) rfl (by kernel_rfl) ?zx175 AllReadyZ.nil
   intro K hK
   simp only[List.getElem_toArray,List.getElem_cons_succ,List.getElem_cons_zero]
   go_simp
   obtain ⟨w155,hw155⟩:∃w155,w155=w144.alloc (.cells #[(.slice (some ⟨V.heap.size,0,none⟩) 4 4),(.slice (some ⟨w127.heap.size,0,none⟩) 8 c140),(.slice (some ⟨w134.heap.size,0,none⟩) 4 c151)] 49):=⟨_,rfl⟩
   have k157:Gr w144 w155:=by rw[hw155];exact Gr.alloc (Gr.refl _) _
   have q162:=And.intro (three_new (w:=w144) hw155) g145.size
   rw[←hw155]
   clear hw155
   have g156:=Gr.trans g145 k157
   have s158:=Rb.gr s147 k157
   have r159:=r148.gr k157
   have r160:=r149.gr k157
   have r161:=r150.gr k157
   refine hK.out _ _ (fun hnz=>?zs163) (fun _=>?zr164)
   case zs163=>exact s158
   clear hK K
   try (simp only[Pu,List.getElem_toArray,List.getElem_cons_succ,List.getElem_cons_zero])
   refine wpAnyZ_ready (rs:=[10]) (by kernel_rfl) (by simp) ?_
   refine AllReadyZ.cons (i:=10) rfl (by kernel_rfl) ?zx174 AllReadyZ.nil
   intro K hK
   simp only[List.getElem_toArray,List.getElem_cons_succ,List.getElem_cons_zero]
   go_simp
   refine hK.out _ _ (fun hnz=>?zs172) (fun _=>?zr173)
   case zs172=>exact absurd rfl hnz
   clear hK K
   try (simp only[Pu,List.getElem_toArray,List.getElem_cons_succ,List.getElem_cons_zero])
   refine wpAnyZ_done (by kernel_rfl) ?_ _
   go_wp2
   go_ret
   exact RetWr.of GV.out.size HD.out q162 r159 r160 r161 (Gr.trans GV.out g156)
 ·
  intro K hK
  simp only[List.getElem_toArray,List.getElem_cons_succ,List.getElem_cons_zero]
  go_simp
  obtain ⟨w181,hw181⟩:∃w181,w181=V.alloc (.cells #[] 5):=⟨_,rfl⟩
  have k183:Gr V w181:=by rw[hw181];exact Gr.alloc (Gr.refl _) _
  rw[←hw181]
  clear hw181
  have g182:=Gr.trans gr0 k183
  have s184:=Rb.gr hS0 k183
  refine hK.out _ _ (fun hnz=>?zs185) (fun _=>?zr186)
  case zs185=>exact s184
  clear hK K
  try (simp only[Pu,List.getElem_toArray,List.getElem_cons_succ,List.getElem_cons_zero])
  refine wpAnyZ_ready (rs:=[0,4,5]) (by kernel_rfl) (by simp) ?_
  refine AllReadyZ.cons (i:=0) rfl (by kernel_rfl) ?zx603 (AllReadyZ.cons (i:=4) rfl (by kernel_rfl) ?zx604 (AllReadyZ.cons (i:=5) rfl (by kernel_rfl) ?zx605 AllReadyZ.nil))
  ·
   intro K hK
   simp only[List.getElem_toArray,List.getElem_cons_succ,List.getElem_cons_zero]
   go_simp
   obtain ⟨w187,hw187⟩:∃w187,w187=w181.alloc (.cells #[.int .u8 0, .int .u8 0, .int .u8 0, .int .u8 0] 5):=⟨_,rfl⟩
   have k189:Gr w181 w187:=by rw[hw187];exact Gr.alloc (Gr.refl _) _
   have r191:Rbf V.heap.size w187 (some ⟨w181.heap.size,0,none⟩) [0,0,0,0]:=⟨by rw[hw187];exact four_nil _,fun ad e=>by injection e with e;subst e;exact g182.size⟩
   rw[←hw187]
   clear hw187
   have g188:=Gr.trans g182 k189
   have s190:=Rb.gr s184 k189
   refine hK.out _ _ (fun hnz=>?zs192) (fun _=>?zr193)
   case zs192=>exact s190
   clear hK K
   try (simp only[Pu,List.getElem_toArray,List.getElem_cons_succ,List.getElem_cons_zero])
   refine wpAnyZ_ready (rs:=[4,5]) (by kernel_rfl) (by simp) ?_
   refine AllReadyZ.cons (i:=4) rfl (by kernel_rfl) ?zx297 (AllReadyZ.cons (i:=5) rfl (by kernel_rfl) ?zx298 AllReadyZ.nil)
   ·
    intro K hK
    simp only[List.getElem_toArray,List.getElem_cons_succ,List.getElem_cons_zero]
    refine wp_append_e (.tmp 7) (.tmp 9) 49 rfl 5 i0 _ 1 1 Tryz.underlying49 hi0 hz0 hz1 hz2 rfl (by decide) ⟨V.heap.size,0,none⟩ rfl (ad.add 4) 8 (cp-4) (bys (bs.drop 4)) rfl (by decide) (Rb.drop4 hl s190) (by unfold maxLen;omega) (by omega) ?_
    intro c200 w194 o201 k196
    have r199:Rbf V.heap.size w194 (some ⟨w187.heap.size,0,none⟩) (bs.drop 4):=⟨Rb.own o201,fun ad e=>by injection e with e;subst e;exact g188.size⟩
    have g195:=Gr.trans g188 k196
    have s197:=Rb.gr s190 k196
    clear o201
    have r198:=r191.gr k196
    refine hK.out _ _ (fun hnz=>?zs202) (fun _=>?zr203)
    case zs202=>exact s197
    clear hK K
    try (simp only[Pu,List.getElem_toArray,List.getElem_cons_succ,List.getElem_cons_zero])
    refine wpAnyZ_ready (rs:=[5]) (by kernel_rfl) (by simp) ?_
    refine AllReadyZ.cons (i:=5) rfl (by kernel_rfl) ?zx245 AllReadyZ.nil
    intro K hK
    simp only[List.getElem_toArray,List.getElem_cons_succ,List.getElem_cons_zero]
    go_simp
    obtain ⟨w204,hw204⟩:∃w204,w204=w194.alloc (.cells #[] 5):=⟨_,rfl⟩
    have k206:Gr w194 w204:=by rw[hw204];exact Gr.alloc (Gr.refl _) _
    rw[←hw204]
    clear hw204
    have g205:=Gr.trans g195 k206
    have s207:=Rb.gr s197 k206
    have r208:=r198.gr k206
    have r209:=r199.gr k206
    refine hK.out _ _ (fun hnz=>?zs210) (fun _=>?zr211)
    case zs210=>exact s207
    clear hK K
    try (simp only[Pu,List.getElem_toArray,List.getElem_cons_succ,List.getElem_cons_zero])
    refine wpAnyZ_ready (rs:=[8]) (by kernel_rfl) (by simp) ?_
    refine AllReadyZ.cons (i:=8) rfl (by kernel_rfl) ?zx244 AllReadyZ.nil
    intro K hK
    simp only[List.getElem_toArray,List.getElem_cons_succ,List.getElem_cons_zero]
    refine wp_append_e (.tmp 11) (.tmp 13) 49 rfl 5 i0 _ 1 1 Tryz.underlying49 hi0 hz0 hz1 hz2 rfl (by decide) ⟨w194.heap.size,0,none⟩ rfl ad 4 cp (bys (bs.take 4)) rfl (by decide) (Rb.take4 hl s207) (by unfold maxLen;omega) (by omega) ?_
    intro c219 w212 o220 k214
    have r218:Rbf V.heap.size w212 (some ⟨w204.heap.size,0,none⟩) (bs.take 4):=⟨Rb.own o220,fun ad e=>by injection e with e;subst e;exact g205.size⟩
    have g213:=Gr.trans g205 k214
    have s215:=Rb.gr s207 k214
    clear o220
    have r216:=r208.gr k214
    have r217:=r209.gr k214
    refine hK.out _ _ (fun hnz=>?zs221) (fun _=>?zr222)
    case zs221=>exact s215
    clear hK K
    try (simp only[Pu,List.getElem_toArray,List.getElem_cons_succ,List.getElem_cons_zero])
    refine wpAnyZ_ready (rs:=[9]) (by kernel_rfl) (by simp) ?_
    refine AllReadyZ.cons (i:=9) rfl (by kernel_rfl) ?zx243 AllReadyZ.nil
    intro K hK
    simp only[List.getElem_toArray,List.getElem_cons_succ,List.getElem_cons_zero]
    go_simp
    obtain ⟨w223,hw223⟩:∃w223,w223=w212.alloc (.cells #[(.slice (some ⟨w181.heap.size,0,none⟩) 4 4),(.slice (some ⟨w187.heap.size,0,none⟩) 8 c200),(.slice (some ⟨w204.heap.size,0,none⟩) 4 c219)] 49):=⟨_,rfl⟩
    have k225:Gr w212 w223:=by rw[hw223];exact Gr.alloc (Gr.refl _) _
    have q230:=And.intro (three_new (w:=w212) hw223) g213.size
    rw[←hw223]
    clear hw223
    have g224:=Gr.trans g213 k225
    have s226:=Rb.gr s215 k225
    have r227:=r216.gr k225
    have r228:=r217.gr k225
    have r229:=r218.gr k225
    refine hK.out _ _ (fun hnz=>?zs231) (fun _=>?zr232)
    case zs231=>exact s226
    clear hK K
    try (simp only[Pu,List.getElem_toArray,List.getElem_cons_succ,List.getElem_cons_zero])
    refine wpAnyZ_ready (rs:=[10]) (by kernel_rfl) (by simp) ?_
    refine AllReadyZ.cons (i:=10) rfl (by kernel_rfl) ?zx242 AllReadyZ.nil
    intro K hK
    simp only[List.getElem_toArray,List.getElem_cons_succ,List.getElem_cons_zero]
    go_simp
    refine hK.out _ _ (fun hnz=>?zs240) (fun _=>?zr241)
    case zs240=>exact absurd rfl hnz
    clear hK K
    try (simp only[Pu,List.getElem_toArray,List.getElem_cons_succ,List.getElem_cons_zero])
    refine wpAnyZ_done (by kernel_rfl) ?_ _
    go_wp2
    go_ret
    exact RetWr.of GV.out.size HD.out q230 r227 r228 r229 (Gr.trans GV.out g224)
   ·
    intro K hK
    simp only[List.getElem_toArray,List.getElem_cons_succ,List.getElem_cons_zero]
    go_simp
    obtain ⟨w246,hw246⟩:∃w246,w246=w187.alloc (.cells #[] 5):=⟨_,rfl⟩
    have k248:Gr w187 w246:=by rw[hw246];exact Gr.alloc (Gr.refl _) _
    rw[←hw246]
    clear hw246
    have g247:=Gr.trans g188 k248
    have s249:=Rb.gr s190 k248
    have r250:=r191.gr k248
    refine hK.out _ _ (fun hnz=>?zs251) (fun _=>?zr252)
    case zs251=>exact s249
    clear hK K
    try (simp only[Pu,List.getElem_toArray,List.getElem_cons_succ,List.getElem_cons_zero])
    refine wpAnyZ_ready (rs:=[4]) (by kernel_rfl) (by simp) ?_
    refine AllReadyZ.cons (i:=4) rfl (by kernel_rfl) ?zx296 AllReadyZ.nil
    intro K hK
    simp only[List.getElem_toArray,List.getElem_cons_succ,List.getElem_cons_zero]
    refine wp_append_e (.tmp 7) (.tmp 9) 49 rfl 5 i0 _ 1 1 Tryz.underlying49 hi0 hz0 hz1 hz2 rfl (by decide) ⟨V.heap.size,0,none⟩ rfl (ad.add 4) 8 (cp-4) (bys (bs.drop 4)) rfl (by decide) (Rb.drop4 hl s249) (by unfold maxLen;omega) (by omega) ?_
    intro c259 w253 o260 k255
    have r258:Rbf V.heap.size w253 (some ⟨w246.heap.size,0,none⟩) (bs.drop 4):=⟨Rb.own o260,fun ad e=>by injection e with e;subst e;exact g247.size⟩
    have g254:=Gr.trans g247 k255
    have s256:=Rb.gr s249 k255
    clear o260
    have r257:=r250.gr k255
    refine hK.out _ _ (fun hnz=>?zs261) (fun _=>?zr262)
    case zs261=>exact s256
    clear hK K
    try (simp only[Pu,List.getElem_toArray,List.getElem_cons_succ,List.getElem_cons_zero])
    refine wpAnyZ_ready (rs:=[8]) (by kernel_rfl) (by simp) ?_
    refine AllReadyZ.cons (i:=8) rfl (by kernel_rfl) ?zx295 AllReadyZ.nil
    intro K hK
    simp only[List.getElem_toArray,List.getElem_cons_succ,List.getElem_cons_zero]
    refine wp_append_e (.tmp 11) (.tmp 13) 49 rfl 5 i0 _ 1 1 Tryz.underlying49 hi0 hz0 hz1 hz2 rfl (by decide) ⟨w187.heap.size,0,none⟩ rfl ad 4 cp (bys (bs.take 4)) rfl (by decide) (Rb.take4 hl s256) (by unfold maxLen;omega) (by omega) ?_
    intro c270 w263 o271 k265
    have r269:Rbf V.heap.size w263 (some ⟨w253.heap.size,0,none⟩) (bs.take 4):=⟨Rb.own o271,fun ad e=>by injection e with e;subst e;exact g254.size⟩
    have g264:=Gr.trans g254 k265
    have s266:=Rb.gr s256 k265
    clear o271
    have r267:=r257.gr k265
    have r268:=r258.gr k265
    refine hK.out _ _ (fun hnz=>?zs272) (fun _=>?zr273)
    case zs272=>exact s266
    clear hK K
    try (simp only[Pu,List.getElem_toArray,List.getElem_cons_succ,List.getElem_cons_zero])
    refine wpAnyZ_ready (rs:=[9]) (by kernel_rfl) (by simp) ?_
    refine AllReadyZ.cons (i:=9) rfl (by kernel_rfl) ?zx294 AllReadyZ.nil
    intro K hK
    simp only[List.getElem_toArray,List.getElem_cons_succ,List.getElem_cons_zero]
    go_simp
    obtain ⟨w274,hw274⟩:∃w274,w274=w263.alloc (.cells #[(.slice (some ⟨w181.heap.size,0,none⟩) 4 4),(.slice (some ⟨w246.heap.size,0,none⟩) 8 c259),(.slice (some ⟨w253.heap.size,0,none⟩) 4 c270)] 49):=⟨_,rfl⟩
    have k276:Gr w263 w274:=by rw[hw274];exact Gr.alloc (Gr.refl _) _
    have q281:=And.intro (three_new (w:=w263) hw274) g264.size
    rw[←hw274]
    clear hw274
    have g275:=Gr.trans g264 k276
    have s277:=Rb.gr s266 k276
    have r278:=r267.gr k276
    have r279:=r268.gr k276
    have r280:=r269.gr k276
    refine hK.out _ _ (fun hnz=>?zs282) (fun _=>?zr283)
    case zs282=>exact s277
    clear hK K
    try (simp only[Pu,List.getElem_toArray,List.getElem_cons_succ,List.getElem_cons_zero])
    refine wpAnyZ_ready (rs:=[10]) (by kernel_rfl) (by simp) ?_
    refine AllReadyZ.cons (i:=10) rfl (by kernel_rfl) ?zx293 AllReadyZ.nil
    intro K hK
    simp only[List.getElem_toArray,List.getElem_cons_succ,List.getElem_cons_zero]
    go_simp
    refine hK.out _ _ (fun hnz=>?zs291) (fun _=>?zr292)
    case zs291=>exact absurd rfl hnz
    clear hK K
    try (simp only[Pu,List.getElem_toArray,List.getElem_cons_succ,List.getElem_cons_zero])
    refine wpAnyZ_done (by kernel_rfl) ?_ _
    go_wp2
    go_ret
    exact RetWr.of GV.out.size HD.out q281 r278 r279 r280 (Gr.trans GV.out g275)
  ·
   intro K hK
   simp only[List.getElem_toArray,List.getElem_cons_succ,List.getElem_cons_zero]
   refine wp_append_e (.tmp 7) (.tmp 9) 49 rfl 5 i0 _ 1 1 Tryz.underlying49 hi0 hz0 hz1 hz2 rfl (by decide) ⟨V.heap.size,0,none⟩ rfl (ad.add 4) 8 (cp-4) (bys (bs.drop 4)) rfl (by decide) (Rb.drop4 hl s184) (by unfold maxLen;omega) (by omega) ?_
   intro c304 w299 o305 k301
   have r303:Rbf V.heap.size w299 (some ⟨w181.heap.size,0,none⟩) (bs.drop 4):=⟨Rb.own o305,fun ad e=>by injection e with e;subst e;exact g182.size⟩
   have g300:=Gr.trans g182 k301
   have s302:=Rb.gr s184 k301
   clear o305
   refine hK.out _ _ (fun hnz=>?zs306) (fun _=>?zr307)
   case zs306=>exact s302
   clear hK K
   try (simp only[Pu,List.getElem_toArray,List.getElem_cons_succ,List.getElem_cons_zero])
   refine wpAnyZ_ready (rs:=[0,5]) (by kernel_rfl) (by simp) ?_
   refine AllReadyZ.cons (i:=0) rfl (by kernel_rfl) ?zx449 (AllReadyZ.cons (i:=5) rfl (by kernel_rfl) ?zx450 AllReadyZ.nil)
   ·
    intro K hK
    simp only[List.getElem_toArray,List.getElem_cons_succ,List.getElem_cons_zero]
    go_simp
    obtain ⟨w308,hw308⟩:∃w308,w308=w299.alloc (.cells #[.int .u8 0, .int .u8 0, .int .u8 0, .int .u8 0] 5):=⟨_,rfl⟩
    have k310:Gr w299 w308:=by rw[hw308];exact Gr.alloc (Gr.refl _) _
    have r313:Rbf V.heap.size w308 (some ⟨w299.heap.size,0,none⟩) [0,0,0,0]:=⟨by rw[hw308];exact four_nil _,fun ad e=>by injection e with e;subst e;exact g300.size⟩
    rw[←hw308]
    clear hw308
    have g309:=Gr.trans g300 k310
    have s311:=Rb.gr s302 k310
    have r312:=r303.gr k310
    refine hK.out _ _ (fun hnz=>?zs314) (fun _=>?zr315)
    case zs314=>exact s311
    clear hK K
    try (simp only[Pu,List.getElem_toArray,List.getElem_cons_succ,List.getElem_cons_zero])
    refine wpAnyZ_ready (rs:=[5]) (by kernel_rfl) (by simp) ?_
    refine AllReadyZ.cons (i:=5) rfl (by kernel_rfl) ?zx357 AllReadyZ.nil
    intro K hK
    simp only[List.getElem_toArray,List.getElem_cons_succ,List.getElem_cons_zero]
    go_simp
    obtain ⟨w316,hw316⟩:∃w316,w316=w308.alloc (.cells #[] 5):=⟨_,rfl⟩
    have k318:Gr w308 w316:=by rw[hw316];exact Gr.alloc (Gr.refl _) _
    rw[←hw316]
    clear hw316
    have g317:=Gr.trans g309 k318
    have s319:=Rb.gr s311 k318
    have r320:=r313.gr k318
    have r321:=r312.gr k318
    refine hK.out _ _ (fun hnz=>?zs322) (fun _=>?zr323)
    case zs322=>exact s319
    clear hK K
    try (simp only[Pu,List.getElem_toArray,List.getElem_cons_succ,List.getElem_cons_zero])
    refine wpAnyZ_ready (rs:=[8]) (by kernel_rfl) (by simp) ?_
    refine AllReadyZ.cons (i:=8) rfl (by kernel_rfl) ?zx356 AllReadyZ.nil
    intro K hK
    simp only[List.getElem_toArray,List.getElem_cons_succ,List.getElem_cons_zero]
    refine wp_append_e (.tmp 11) (.tmp 13) 49 rfl 5 i0 _ 1 1 Tryz.underlying49 hi0 hz0 hz1 hz2 rfl (by decide) ⟨w308.heap.size,0,none⟩ rfl ad 4 cp (bys (bs.take 4)) rfl (by decide) (Rb.take4 hl s319) (by unfold maxLen;omega) (by omega) ?_
    intro c331 w324 o332 k326
    have r330:Rbf V.heap.size w324 (some ⟨w316.heap.size,0,none⟩) (bs.take 4):=⟨Rb.own o332,fun ad e=>by injection e with e;subst e;exact g317.size⟩
    have g325:=Gr.trans g317 k326
    have s327:=Rb.gr s319 k326
    clear o332
    have r328:=r320.gr k326
    have r329:=r321.gr k326
    refine hK.out _ _ (fun hnz=>?zs333) (fun _=>?zr334)
    case zs333=>exact s327
    clear hK K
    try (simp only[Pu,List.getElem_toArray,List.getElem_cons_succ,List.getElem_cons_zero])
    refine wpAnyZ_ready (rs:=[9]) (by kernel_rfl) (by simp) ?_
    refine AllReadyZ.cons (i:=9) rfl (by kernel_rfl) ?zx355 AllReadyZ.nil
    intro K hK
    simp only[List.getElem_toArray,List.getElem_cons_succ,List.getElem_cons_zero]
    go_simp
    obtain ⟨w335,hw335⟩:∃w335,w335=w324.alloc (.cells #[(.slice (some ⟨w299.heap.size,0,none⟩) 4 4),(.slice (some ⟨w181.heap.size,0,none⟩) 8 c304),(.slice (some ⟨w316.heap.size,0,none⟩) 4 c331)] 49):=⟨_,rfl⟩
    have k337:Gr w324 w335:=by rw[hw335];exact Gr.alloc (Gr.refl _) _
    have q342:=And.intro (three_new (w:=w324) hw335) g325.size
    rw[←hw335]
    clear hw335
    have g336:=Gr.trans g325 k337
    have s338:=Rb.gr s327 k337
    have r339:=r328.gr k337
    have r340:=r329.gr k337
    have r341:=r330.gr k337
    refine hK.out _ _ (fun hnz=>?zs343) (fun _=>?zr344)
    case zs343=>exact s338
    clear hK K
    try (simp only[Pu,List.getElem_toArray,List.getElem_cons_succ,List.getElem_cons_zero])
    refine wpAnyZ_ready (rs:=[10]) (by kernel_rfl) (by simp) ?_
    refine AllReadyZ.cons (i:=10) rfl (by kernel_rfl) ?zx354 AllReadyZ.nil
    intro K hK
    simp only[List.getElem_toArray,List.getElem_cons_succ,List.getElem_cons_zero]
    go_simp
    refine hK.out _ _ (fun hnz=>?zs352) (fun _=>?zr353)
    case zs352=>exact absurd rfl hnz
    clear hK K
    try (simp only[Pu,List.getElem_toArray,List.getElem_cons_succ,List.getElem_cons_zero])
    refine wpAnyZ_done (by kernel_rfl) ?_ _
    go_wp2
    go_ret
    exact RetWr.of GV.out.size HD.out q342 r339 r340 r341 (Gr.trans GV.out g336)
   ·
    intro K hK
    simp only[List.getElem_toArray,List.getElem_cons_succ,List.getElem_cons_zero]
    go_simp
    obtain ⟨w358,hw358⟩:∃w358,w358=w299.alloc (.cells #[] 5):=⟨_,rfl⟩
    have k360:Gr w299 w358:=by rw[hw358];exact Gr.alloc (Gr.refl _) _
    rw[←hw358]
    clear hw358
    have g359:=Gr.trans g300 k360
    have s361:=Rb.gr s302 k360
    have r362:=r303.gr k360
    refine hK.out _ _ (fun hnz=>?zs363) (fun _=>?zr364)
    case zs363=>exact s361
    clear hK K
    try (simp only[Pu,List.getElem_toArray,List.getElem_cons_succ,List.getElem_cons_zero])
    refine wpAnyZ_ready (rs:=[0,8]) (by kernel_rfl) (by simp) ?_
    refine AllReadyZ.cons (i:=0) rfl (by kernel_rfl) ?zx447 (AllReadyZ.cons (i:=8) rfl (by kernel_rfl) ?zx448 AllReadyZ.nil)
    ·
     intro K hK
     simp only[List.getElem_toArray,List.getElem_cons_succ,List.getElem_cons_zero]
     go_simp
     obtain ⟨w365,hw365⟩:∃w365,w365=w358.alloc (.cells #[.int .u8 0, .int .u8 0, .int .u8 0, .int .u8 0] 5):=⟨_,rfl⟩
     have k367:Gr w358 w365:=by rw[hw365];exact Gr.alloc (Gr.refl _) _
     have r370:Rbf V.heap.size w365 (some ⟨w358.heap.size,0,none⟩) [0,0,0,0]:=⟨by rw[hw365];exact four_nil _,fun ad e=>by injection e with e;subst e;exact g359.size⟩
     rw[←hw365]
     clear hw365
     have g366:=Gr.trans g359 k367
     have s368:=Rb.gr s361 k367
     have r369:=r362.gr k367
     refine hK.out _ _ (fun hnz=>?zs371) (fun _=>?zr372)
     case zs371=>exact s368
     clear hK K
     try (simp only[Pu,List.getElem_toArray,List.getElem_cons_succ,List.getElem_cons_zero])
     refine wpAnyZ_ready (rs:=[8]) (by kernel_rfl) (by simp) ?_
     refine AllReadyZ.cons (i:=8) rfl (by kernel_rfl) ?zx405 AllReadyZ.nil
     intro K hK
     simp only[List.getElem_toArray,List.getElem_cons_succ,List.getElem_cons_zero]
     refine wp_append_e (.tmp 11) (.tmp 13) 49 rfl 5 i0 _ 1 1 Tryz.underlying49 hi0 hz0 hz1 hz2 rfl (by decide) ⟨w299.heap.size,0,none⟩ rfl ad 4 cp (bys (bs.take 4)) rfl (by decide) (Rb.take4 hl s368) (by unfold maxLen;omega) (by omega) ?_
     intro c380 w373 o381 k375
     have r379:Rbf V.heap.size w373 (some ⟨w365.heap.size,0,none⟩) (bs.take 4):=⟨Rb.own o381,fun ad e=>by injection e with e;subst e;exact g366.size⟩
     have g374:=Gr.trans g366 k375
     have s376:=Rb.gr s368 k375
     clear o381
     have r377:=r370.gr k375
     have r378:=r369.gr k375
     refine hK.out _ _ (fun hnz=>?zs382) (fun _=>?zr383)
     case zs382=>exact s376
     clear hK K
     try (simp only[Pu,List.getElem_toArray,List.getElem_cons_succ,List.getElem_cons_zero])
     refine wpAnyZ_ready (rs:=[9]) (by kernel_rfl) (by simp) ?_
     refine AllReadyZ.cons (i:=9) rfl (by kernel_rfl) ?zx404 AllReadyZ.nil
     intro K hK
     simp only[List.getElem_toArray,List.getElem_cons_succ,List.getElem_cons_zero]
     go_simp
     obtain ⟨w384,hw384⟩:∃w384,w384=w373.alloc (.cells #[(.slice (some ⟨w358.heap.size,0,none⟩) 4 4),(.slice (some ⟨w181.heap.size,0,none⟩) 8 c304),(.slice (some ⟨w365.heap.size,0,none⟩) 4 c380)] 49):=⟨_,rfl⟩
     have k386:Gr w373 w384:=by rw[hw384];exact Gr.alloc (Gr.refl _) _
     have q391:=And.intro (three_new (w:=w373) hw384) g374.size
     rw[←hw384]
     clear hw384
     have g385:=Gr.trans g374 k386
     have s387:=Rb.gr s376 k386
     have r388:=r377.gr k386
     have r389:=r378.gr k386
     have r390:=r379.gr k386
     refine hK.out _ _ (fun hnz=>?zs392) (fun _=>?zr393)
     case zs392=>exact s387
     clear hK K
     try (simp only[Pu,List.getElem_toArray,List.getElem_cons_succ,List.getElem_cons_zero])
     refine wpAnyZ_ready (rs:=[10]) (by kernel_rfl) (by simp) ?_
     refine AllReadyZ.cons (i:=10) rfl (by kernel_rfl) ?zx403 AllReadyZ.nil
     intro K hK
     simp only[List.getElem_toArray,List.getElem_cons_succ,List.getElem_cons_zero]
     go_simp
     refine hK.out _ _ (fun hnz=>?zs401) (fun _=>?zr402)
     case zs401=>exact absurd rfl hnz
     clear hK K
     try (simp only[Pu,List.getElem_toArray,List.getElem_cons_succ,List.getElem_cons_zero])
     refine wpAnyZ_done (by kernel_rfl) ?_ _
     go_wp2
     go_ret
     exact RetWr.of GV.out.size HD.out q391 r388 r389 r390 (Gr.trans GV.out g385)
    ·
     intro K hK
     simp only[List.getElem_toArray,List.getElem_cons_succ,List.getElem_cons_zero]
     refine wp_append_e (.tmp 11) (.tmp 13) 49 rfl 5 i0 _ 1 1 Tryz.underlying49 hi0 hz0 hz1 hz2 rfl (by decide) ⟨w299.heap.size,0,none⟩ rfl ad 4 cp (bys (bs.take 4)) rfl (by decide) (Rb.take4 hl s361) (by unfold maxLen;omega) (by omega) ?_
     intro c412 w406 o413 k408
     have r411:Rbf V.heap.size w406 (some ⟨w358.heap.size,0,none⟩) (bs.take 4):=⟨Rb.own o413,fun ad e=>by injection e with e;subst e;exact g359.size⟩
     have g407:=Gr.trans g359 k408
     have s409:=Rb.gr s361 k408
     clear o413
     have r410:=r362.gr k408
     refine hK.out _ _ (fun hnz=>?zs414) (fun _=>?zr415)
     case zs414=>exact s409
     clear hK K
     try (simp only[Pu,List.getElem_toArray,List.getElem_cons_succ,List.getElem_cons_zero])
     refine wpAnyZ_ready (rs:=[0]) (by kernel_rfl) (by simp) ?_
     refine AllReadyZ.cons (i:=0) rfl (by kernel_rfl) ?zx446 AllReadyZ.nil
     intro K hK
     simp only[List.getElem_toArray,List.getElem_cons_succ,List.getElem_cons_zero]
     go_simp
     obtain ⟨w416,hw416⟩:∃w416,w416=w406.alloc (.cells #[.int .u8 0, .int .u8 0, .int .u8 0, .int .u8 0] 5):=⟨_,rfl⟩
     have k418:Gr w406 w416:=by rw[hw416];exact Gr.alloc (Gr.refl _) _
     have r422:Rbf V.heap.size w416 (some ⟨w406.heap.size,0,none⟩) [0,0,0,0]:=⟨by rw[hw416];exact four_nil _,fun ad e=>by injection e with e;subst e;exact g407.size⟩
     rw[←hw416]
     clear hw416
     have g417:=Gr.trans g407 k418
     have s419:=Rb.gr s409 k418
     have r420:=r410.gr k418
     have r421:=r411.gr k418
     refine hK.out _ _ (fun hnz=>?zs423) (fun _=>?zr424)
     case zs423=>exact s419
     clear hK K
     try (simp only[Pu,List.getElem_toArray,List.getElem_cons_succ,List.getElem_cons_zero])
     refine wpAnyZ_ready (rs:=[9]) (by kernel_rfl) (by simp) ?_
     refine AllReadyZ.cons (i:=9) rfl (by kernel_rfl) ?zx445 AllReadyZ.nil
     intro K hK
     simp only[List.getElem_toArray,List.getElem_cons_succ,List.getElem_cons_zero]
     go_simp
     obtain ⟨w425,hw425⟩:∃w425,w425=w416.alloc (.cells #[(.slice (some ⟨w406.heap.size,0,none⟩) 4 4),(.slice (some ⟨w181.heap.size,0,none⟩) 8 c304),(.slice (some ⟨w358.heap.size,0,none⟩) 4 c412)] 49):=⟨_,rfl⟩
     have k427:Gr w416 w425:=by rw[hw425];exact Gr.alloc (Gr.refl _) _
     have q432:=And.intro (three_new (w:=w416) hw425) g417.size
     rw[←hw425]
     clear hw425
     have g426:=Gr.trans g417 k427
     have s428:=Rb.gr s419 k427
     have r429:=r422.gr k427
     have r430:=r420.gr k427
     have r431:=r421.gr k427
     refine hK.out _ _ (fun hnz=>?zs433) (fun _=>?zr434)
     case zs433=>exact s428
     clear hK K
     try (simp only[Pu,List.getElem_toArray,List.getElem_cons_succ,List.getElem_cons_zero])
     refine wpAnyZ_ready (rs:=[10]) (by kernel_rfl) (by simp) ?_
     refine AllReadyZ.cons (i:=10) rfl (by kernel_rfl) ?zx444 AllReadyZ.nil
     intro K hK
     simp only[List.getElem_toArray,List.getElem_cons_succ,List.getElem_cons_zero]
     go_simp
     refine hK.out _ _ (fun hnz=>?zs442) (fun _=>?zr443)
     case zs442=>exact absurd rfl hnz
     clear hK K
     try (simp only[Pu,List.getElem_toArray,List.getElem_cons_succ,List.getElem_cons_zero])
     refine wpAnyZ_done (by kernel_rfl) ?_ _
     go_wp2
     go_ret
     exact RetWr.of GV.out.size HD.out q432 r429 r430 r431 (Gr.trans GV.out g426)
  ·
   intro K hK
   simp only[List.getElem_toArray,List.getElem_cons_succ,List.getElem_cons_zero]
   go_simp
   obtain ⟨w451,hw451⟩:∃w451,w451=w181.alloc (.cells #[] 5):=⟨_,rfl⟩
   have k453:Gr w181 w451:=by rw[hw451];exact Gr.alloc (Gr.refl _) _
   rw[←hw451]
   clear hw451
   have g452:=Gr.trans g182 k453
   have s454:=Rb.gr s184 k453
   refine hK.out _ _ (fun hnz=>?zs455) (fun _=>?zr456)
   case zs455=>exact s454
   clear hK K
   try (simp only[Pu,List.getElem_toArray,List.getElem_cons_succ,List.getElem_cons_zero])
   refine wpAnyZ_ready (rs:=[0,4]) (by kernel_rfl) (by simp) ?_
   refine AllReadyZ.cons (i:=0) rfl (by kernel_rfl) ?zx601 (AllReadyZ.cons (i:=4) rfl (by kernel_rfl) ?zx602 AllReadyZ.nil)
   ·
    intro K hK
    simp only[List.getElem_toArray,List.getElem_cons_succ,List.getElem_cons_zero]
    go_simp
    obtain ⟨w457,hw457⟩:∃w457,w457=w451.alloc (.cells #[.int .u8 0, .int .u8 0, .int .u8 0, .int .u8 0] 5):=⟨_,rfl⟩
    have k459:Gr w451 w457:=by rw[hw457];exact Gr.alloc (Gr.refl _) _
    have r461:Rbf V.heap.size w457 (some ⟨w451.heap.size,0,none⟩) [0,0,0,0]:=⟨by rw[hw457];exact four_nil _,fun ad e=>by injection e with e;subst e;exact g452.size⟩
    rw[←hw457]
    clear hw457
    have g458:=Gr.trans g452 k459
    have s460:=Rb.gr s454 k459
    refine hK.out _ _ (fun hnz=>?zs462) (fun _=>?zr463)
    case zs462=>exact s460
    clear hK K
    try (simp only[Pu,List.getElem_toArray,List.getElem_cons_succ,List.getElem_cons_zero])
    refine wpAnyZ_ready (rs:=[4]) (by kernel_rfl) (by simp) ?_
    refine AllReadyZ.cons (i:=4) rfl (by kernel_rfl) ?zx507 AllReadyZ.nil
    intro K hK
    simp only[List.getElem_toArray,List.getElem_cons_succ,List.getElem_cons_zero]
    refine wp_append_e (.tmp 7) (.tmp 9) 49 rfl 5 i0 _ 1 1 Tryz.underlying49 hi0 hz0 hz1 hz2 rfl (by decide) ⟨V.heap.size,0,none⟩ rfl (ad.add 4) 8 (cp-4) (bys (bs.drop 4)) rfl (by decide) (Rb.drop4 hl s460) (by unfold maxLen;omega) (by omega) ?_
    intro c470 w464 o471 k466
    have r469:Rbf V.heap.size w464 (some ⟨w457.heap.size,0,none⟩) (bs.drop 4):=⟨Rb.own o471,fun ad e=>by injection e with e;subst e;exact g458.size⟩
    have g465:=Gr.trans g458 k466
    have s467:=Rb.gr s460 k466
    clear o471
    have r468:=r461.gr k466
    refine hK.out _ _ (fun hnz=>?zs472) (fun _=>?zr473)
    case zs472=>exact s467
    clear hK K
    try (simp only[Pu,List.getElem_toArray,List.getElem_cons_succ,List.getElem_cons_zero])
    refine wpAnyZ_ready (rs:=[8]) (by kernel_rfl) (by simp) ?_
    refine AllReadyZ.cons (i:=8) rfl (by kernel_rfl) ?zx506 AllReadyZ.nil
    intro K hK
    simp only[List.getElem_toArray,List.getElem_cons_succ,List.getElem_cons_zero]
    refine wp_append_e (.tmp 11) (.tmp 13) 49 rfl 5 i0 _ 1 1 Tryz.underlying49 hi0 hz0 hz1 hz2 rfl (by decide) ⟨w181.heap.size,0,none⟩ rfl ad 4 cp (bys (bs.take 4)) rfl (by decide) (Rb.take4 hl s467) (by unfold maxLen;omega) (by omega) ?_
    intro c481 w474 o482 k476
    have r480:Rbf V.heap.size w474 (some ⟨w464.heap.size,0,none⟩) (bs.take 4):=⟨Rb.own o482,fun ad e=>by injection e with e;subst e;exact g465.size⟩
    have g475:=Gr.trans g465 k476
    have s477:=Rb.gr s467 k476
    clear o482
    have r478:=r468.gr k476
    have r479:=r469.gr k476
    refine hK.out _ _ (fun hnz=>?zs483) (fun _=>?zr484)
    case zs483=>exact s477
    clear hK K
    try (simp only[Pu,List.getElem_toArray,List.getElem_cons_succ,List.getElem_cons_zero])
    refine wpAnyZ_ready (rs:=[9]) (by kernel_rfl) (by simp) ?_
    refine AllReadyZ.cons (i:=9) rfl (by kernel_rfl) ?zx505 AllReadyZ.nil
    intro K hK
    simp only[List.getElem_toArray,List.getElem_cons_succ,List.getElem_cons_zero]
    go_simp
    obtain ⟨w485,hw485⟩:∃w485,w485=w474.alloc (.cells #[(.slice (some ⟨w451.heap.size,0,none⟩) 4 4),(.slice (some ⟨w457.heap.size,0,none⟩) 8 c470),(.slice (some ⟨w464.heap.size,0,none⟩) 4 c481)] 49):=⟨_,rfl⟩
    have k487:Gr w474 w485:=by rw[hw485];exact Gr.alloc (Gr.refl _) _
    have q492:=And.intro (three_new (w:=w474) hw485) g475.size
    rw[←hw485]
    clear hw485
    have g486:=Gr.trans g475 k487
    have s488:=Rb.gr s477 k487
    have r489:=r478.gr k487
    have r490:=r479.gr k487
    have r491:=r480.gr k487
    refine hK.out _ _ (fun hnz=>?zs493) (fun _=>?zr494)
    case zs493=>exact s488
    clear hK K
    try (simp only[Pu,List.getElem_toArray,List.getElem_cons_succ,List.getElem_cons_zero])
    refine wpAnyZ_ready (rs:=[10]) (by kernel_rfl) (by simp) ?_
    refine AllReadyZ.cons (i:=10) rfl (by kernel_rfl) ?zx504 AllReadyZ.nil
    intro K hK
    simp only[List.getElem_toArray,List.getElem_cons_succ,List.getElem_cons_zero]
    go_simp
    refine hK.out _ _ (fun hnz=>?zs502) (fun _=>?zr503)
    case zs502=>exact absurd rfl hnz
    clear hK K
    try (simp only[Pu,List.getElem_toArray,List.getElem_cons_succ,List.getElem_cons_zero])
    refine wpAnyZ_done (by kernel_rfl) ?_ _
    go_wp2
    go_ret
    exact RetWr.of GV.out.size HD.out q492 r489 r490 r491 (Gr.trans GV.out g486)
   ·
    intro K hK
    simp only[List.getElem_toArray,List.getElem_cons_succ,List.getElem_cons_zero]
    refine wp_append_e (.tmp 7) (.tmp 9) 49 rfl 5 i0 _ 1 1 Tryz.underlying49 hi0 hz0 hz1 hz2 rfl (by decide) ⟨V.heap.size,0,none⟩ rfl (ad.add 4) 8 (cp-4) (bys (bs.drop 4)) rfl (by decide) (Rb.drop4 hl s454) (by unfold maxLen;omega) (by omega) ?_
    intro c513 w508 o514 k510
    have r512:Rbf V.heap.size w508 (some ⟨w451.heap.size,0,none⟩) (bs.drop 4):=⟨Rb.own o514,fun ad e=>by injection e with e;subst e;exact g452.size⟩
    have g509:=Gr.trans g452 k510
    have s511:=Rb.gr s454 k510
    clear o514
    refine hK.out _ _ (fun hnz=>?zs515) (fun _=>?zr516)
    case zs515=>exact s511
    clear hK K
    try (simp only[Pu,List.getElem_toArray,List.getElem_cons_succ,List.getElem_cons_zero])
    refine wpAnyZ_ready (rs:=[0,8]) (by kernel_rfl) (by simp) ?_
    refine AllReadyZ.cons (i:=0) rfl (by kernel_rfl) ?zx599 (AllReadyZ.cons (i:=8) rfl (by kernel_rfl) ?zx600 AllReadyZ.nil)
    ·
     intro K hK
     simp only[List.getElem_toArray,List.getElem_cons_succ,List.getElem_cons_zero]
     go_simp
     obtain ⟨w517,hw517⟩:∃w517,w517=w508.alloc (.cells #[.int .u8 0, .int .u8 0, .int .u8 0, .int .u8 0] 5):=⟨_,rfl⟩
     have k519:Gr w508 w517:=by rw[hw517];exact Gr.alloc (Gr.refl _) _
     have r522:Rbf V.heap.size w517 (some ⟨w508.heap.size,0,none⟩) [0,0,0,0]:=⟨by rw[hw517];exact four_nil _,fun ad e=>by injection e with e;subst e;exact g509.size⟩
     rw[←hw517]
     clear hw517
     have g518:=Gr.trans g509 k519
     have s520:=Rb.gr s511 k519
     have r521:=r512.gr k519
     refine hK.out _ _ (fun hnz=>?zs523) (fun _=>?zr524)
     case zs523=>exact s520
     clear hK K
     try (simp only[Pu,List.getElem_toArray,List.getElem_cons_succ,List.getElem_cons_zero])
     refine wpAnyZ_ready (rs:=[8]) (by kernel_rfl) (by simp) ?_
     refine AllReadyZ.cons (i:=8) rfl (by kernel_rfl) ?zx557 AllReadyZ.nil
     intro K hK
     simp only[List.getElem_toArray,List.getElem_cons_succ,List.getElem_cons_zero]
     refine wp_append_e (.tmp 11) (.tmp 13) 49 rfl 5 i0 _ 1 1 Tryz.underlying49 hi0 hz0 hz1 hz2 rfl (by decide) ⟨w181.heap.size,0,none⟩ rfl ad 4 cp (bys (bs.take 4)) rfl (by decide) (Rb.take4 hl s520) (by unfold maxLen;omega) (by omega) ?_
     intro c532 w525 o533 k527
     have r531:Rbf V.heap.size w525 (some ⟨w517.heap.size,0,none⟩) (bs.take 4):=⟨Rb.own o533,fun ad e=>by injection e with e;subst e;exact g518.size⟩
     have g526:=Gr.trans g518 k527
     have s528:=Rb.gr s520 k527
     clear o533
     have r529:=r522.gr k527
     have r530:=r521.gr k527
     refine hK.out _ _ (fun hnz=>?zs534) (fun _=>?zr535)
     case zs534=>exact s528
     clear hK K
     try (simp only[Pu,List.getElem_toArray,List.getElem_cons_succ,List.getElem_cons_zero])
     refine wpAnyZ_ready (rs:=[9]) (by kernel_rfl) (by simp) ?_
     refine AllReadyZ.cons (i:=9) rfl (by kernel_rfl) ?zx556 AllReadyZ.nil
     intro K hK
     simp only[List.getElem_toArray,List.getElem_cons_succ,List.getElem_cons_zero]
     go_simp
     obtain ⟨w536,hw536⟩:∃w536,w536=w525.alloc (.cells #[(.slice (some ⟨w508.heap.size,0,none⟩) 4 4),(.slice (some ⟨w451.heap.size,0,none⟩) 8 c513),(.slice (some ⟨w517.heap.size,0,none⟩) 4 c532)] 49):=⟨_,rfl⟩
     have k538:Gr w525 w536:=by rw[hw536];exact Gr.alloc (Gr.refl _) _
     have q543:=And.intro (three_new (w:=w525) hw536) g526.size
     rw[←hw536]
     clear hw536
     have g537:=Gr.trans g526 k538
     have s539:=Rb.gr s528 k538
     have r540:=r529.gr k538
     have r541:=r530.gr k538
     have r542:=r531.gr k538
     refine hK.out _ _ (fun hnz=>?zs544) (fun _=>?zr545)
     case zs544=>exact s539
     clear hK K
     try (simp only[Pu,List.getElem_toArray,List.getElem_cons_succ,List.getElem_cons_zero])
     refine wpAnyZ_ready (rs:=[10]) (by kernel_rfl) (by simp) ?_
     refine AllReadyZ.cons (i:=10) rfl (by kernel_rfl) ?zx555 AllReadyZ.nil
     intro K hK
     simp only[List.getElem_toArray,List.getElem_cons_succ,List.getElem_cons_zero]
     go_simp
     refine hK.out _ _ (fun hnz=>?zs553) (fun _=>?zr554)
     case zs553=>exact absurd rfl hnz
     clear hK K
     try (simp only[Pu,List.getElem_toArray,List.getElem_cons_succ,List.getElem_cons_zero])
     refine wpAnyZ_done (by kernel_rfl) ?_ _
     go_wp2
     go_ret
     exact RetWr.of GV.out.size HD.out q543 r540 r541 r542 (Gr.trans GV.out g537)
    ·
     intro K hK
     simp only[List.getElem_toArray,List.getElem_cons_succ,List.getElem_cons_zero]
     refine wp_append_e (.tmp 11) (.tmp 13) 49 rfl 5 i0 _ 1 1 Tryz.underlying49 hi0 hz0 hz1 hz2 rfl (by decide) ⟨w181.heap.size,0,none⟩ rfl ad 4 cp (bys (bs.take 4)) rfl (by decide) (Rb.take4 hl s511) (by unfold maxLen;omega) (by omega) ?_
     intro c564 w558 o565 k560
     have r563:Rbf V.heap.size w558 (some ⟨w508.heap.size,0,none⟩) (bs.take 4):=⟨Rb.own o565,fun ad e=>by injection e with e;subst e;exact g509.size⟩
     have g559:=Gr.trans g509 k560
     have s561:=Rb.gr s511 k560
     clear o565
     have r562:=r512.gr k560
     refine hK.out _ _ (fun hnz=>?zs566) (fun _=>?zr567)
     case zs566=>exact s561
     clear hK K
     try (simp only[Pu,List.getElem_toArray,List.getElem_cons_succ,List.getElem_cons_zero])
     refine wpAnyZ_ready (rs:=[0]) (by kernel_rfl) (by simp) ?_
     refine AllReadyZ.cons (i:=0) rfl (by kernel_rfl) ?zx598 AllReadyZ.nil
     intro K hK
     simp only[List.getElem_toArray,List.getElem_cons_succ,List.getElem_cons_zero]
     go_simp
     obtain ⟨w568,hw568⟩:∃w568,w568=w558.alloc (.cells #[.int .u8 0, .int .u8 0, .int .u8 0, .int .u8 0] 5):=⟨_,rfl⟩
     have k570:Gr w558 w568:=by rw[hw568];exact Gr.alloc (Gr.refl _) _
     have r574:Rbf V.heap.size w568 (some ⟨w558.heap.size,0,none⟩) [0,0,0,0]:=⟨by rw[hw568];exact four_nil _,fun ad e=>by injection e with e;subst e;exact g559.size⟩
     rw[←hw568]
     clear hw568
     have g569:=Gr.trans g559 k570
     have s571:=Rb.gr s561 k570
     have r572:=r562.gr k570
     have r573:=r563.gr k570
     refine hK.out _ _ (fun hnz=>?zs575) (fun _=>?zr576)
     case zs575=>exact s571
     clear hK K
     try (simp only[Pu,List.getElem_toArray,List.getElem_cons_succ,List.getElem_cons_zero])
     refine wpAnyZ_ready (rs:=[9]) (by kernel_rfl) (by simp) ?_
     refine AllReadyZ.cons (i:=9) rfl (by kernel_rfl) ?zx597 AllReadyZ.nil
     intro K hK
     simp only[List.getElem_toArray,List.getElem_cons_succ,List.getElem_cons_zero]
     go_simp
     obtain ⟨w577,hw577⟩:∃w577,w577=w568.alloc (.cells #[(.slice (some ⟨w558.heap.size,0,none⟩) 4 4),(.slice (some ⟨w451.heap.size,0,none⟩) 8 c513),(.slice (some ⟨w508.heap.size,0,none⟩) 4 c564)] 49):=⟨_,rfl⟩
     have k579:Gr w568 w577:=by rw[hw577];exact Gr.alloc (Gr.refl _) _
     have q584:=And.intro (three_new (w:=w568) hw577) g569.size
     rw[←hw577]
     clear hw577
     have g578:=Gr.trans g569 k579
     have s580:=Rb.gr s571 k579
     have r581:=r574.gr k579
     have r582:=r572.gr k579
     have r583:=r573.gr k579
     refine hK.out _ _ (fun hnz=>?zs585) (fun _=>?zr586)
     case zs585=>exact s580
     clear hK K
     try (simp only[Pu,List.getElem_toArray,List.getElem_cons_succ,List.getElem_cons_zero])
     refine wpAnyZ_ready (rs:=[10]) (by kernel_rfl) (by simp) ?_
     refine AllReadyZ.cons (i:=10) rfl (by kernel_rfl) ?zx596 AllReadyZ.nil
     intro K hK
     simp only[List.getElem_toArray,List.getElem_cons_succ,List.getElem_cons_zero]
     go_simp
     refine hK.out _ _ (fun hnz=>?zs594) (fun _=>?zr595)
     case zs594=>exact absurd rfl hnz
     clear hK K
     try (simp only[Pu,List.getElem_toArray,List.getElem_cons_succ,List.getElem_cons_zero])
     refine wpAnyZ_done (by kernel_rfl) ?_ _
     go_wp2
     go_ret
     exact RetWr.of GV.out.size HD.out q584 r581 r582 r583 (Gr.trans GV.out g578)
 ·
  intro K hK
  simp only[List.getElem_toArray,List.getElem_cons_succ,List.getElem_cons_zero]
  go_simp
  obtain ⟨w606,hw606⟩:∃w606,w606=V.alloc (.cells #[] 5):=⟨_,rfl⟩
  have k608:Gr V w606:=by rw[hw606];exact Gr.alloc (Gr.refl _) _
  rw[←hw606]
  clear hw606
  have g607:=Gr.trans gr0 k608
  have s609:=Rb.gr hS0 k608
  refine hK.out _ _ (fun hnz=>?zs610) (fun _=>?zr611)
  case zs610=>exact s609
  clear hK K
  try (simp only[Pu,List.getElem_toArray,List.getElem_cons_succ,List.getElem_cons_zero])
  refine wpAnyZ_ready (rs:=[0,1]) (by kernel_rfl) (by simp) ?_
  refine AllReadyZ.cons (i:=0) rfl (by kernel_rfl) ?zx823 (AllReadyZ.cons (i:=1) rfl (by kernel_rfl) ?zx824 AllReadyZ.nil)
  ·
   intro K hK
   simp only[List.getElem_toArray,List.getElem_cons_succ,List.getElem_cons_zero]
   go_simp
   obtain ⟨w612,hw612⟩:∃w612,w612=w606.alloc (.cells #[.int .u8 0, .int .u8 0, .int .u8 0, .int .u8 0] 5):=⟨_,rfl⟩
   have k614:Gr w606 w612:=by rw[hw612];exact Gr.alloc (Gr.refl _) _
   have r616:Rbf V.heap.size w612 (some ⟨w606.heap.size,0,none⟩) [0,0,0,0]:=⟨by rw[hw612];exact four_nil _,fun ad e=>by injection e with e;subst e;exact g607.size⟩
   rw[←hw612]
   clear hw612
   have g613:=Gr.trans g607 k614
   have s615:=Rb.gr s609 k614
   refine hK.out _ _ (fun hnz=>?zs617) (fun _=>?zr618)
   case zs617=>exact s615
   clear hK K
   try (simp only[Pu,List.getElem_toArray,List.getElem_cons_succ,List.getElem_cons_zero])
   refine wpAnyZ_ready (rs:=[1]) (by kernel_rfl) (by simp) ?_
   refine AllReadyZ.cons (i:=1) rfl (by kernel_rfl) ?zx670 AllReadyZ.nil
   intro K hK
   simp only[List.getElem_toArray,List.getElem_cons_succ,List.getElem_cons_zero]
   go_simp
   obtain ⟨w619,hw619⟩:∃w619,w619=w612.alloc (.cells #[] 5):=⟨_,rfl⟩
   have k621:Gr w612 w619:=by rw[hw619];exact Gr.alloc (Gr.refl _) _
   rw[←hw619]
   clear hw619
   have g620:=Gr.trans g613 k621
   have s622:=Rb.gr s615 k621
   have r623:=r616.gr k621
   refine hK.out _ _ (fun hnz=>?zs624) (fun _=>?zr625)
   case zs624=>exact s622
   clear hK K
   try (simp only[Pu,List.getElem_toArray,List.getElem_cons_succ,List.getElem_cons_zero])
   refine wpAnyZ_ready (rs:=[4]) (by kernel_rfl) (by simp) ?_
   refine AllReadyZ.cons (i:=4) rfl (by kernel_rfl) ?zx669 AllReadyZ.nil
   intro K hK
   simp only[List.getElem_toArray,List.getElem_cons_succ,List.getElem_cons_zero]
   refine wp_append_e (.tmp 7) (.tmp 9) 49 rfl 5 i0 _ 1 1 Tryz.underlying49 hi0 hz0 hz1 hz2 rfl (by decide) ⟨w612.heap.size,0,none⟩ rfl (ad.add 4) 8 (cp-4) (bys (bs.drop 4)) rfl (by decide) (Rb.drop4 hl s622) (by unfold maxLen;omega) (by omega) ?_
   intro c632 w626 o633 k628
   have r631:Rbf V.heap.size w626 (some ⟨w619.heap.size,0,none⟩) (bs.drop 4):=⟨Rb.own o633,fun ad e=>by injection e with e;subst e;exact g620.size⟩
   have g627:=Gr.trans g620 k628
   have s629:=Rb.gr s622 k628
   clear o633
   have r630:=r623.gr k628
   refine hK.out _ _ (fun hnz=>?zs634) (fun _=>?zr635)
   case zs634=>exact s629
   clear hK K
   try (simp only[Pu,List.getElem_toArray,List.getElem_cons_succ,List.getElem_cons_zero])
   refine wpAnyZ_ready (rs:=[8]) (by kernel_rfl) (by simp) ?_
   refine AllReadyZ.cons (i:=8) rfl (by kernel_rfl) ?zx668 AllReadyZ.nil
   intro K hK
   simp only[List.getElem_toArray,List.getElem_cons_succ,List.getElem_cons_zero]
   refine wp_append_e (.tmp 11) (.tmp 13) 49 rfl 5 i0 _ 1 1 Tryz.underlying49 hi0 hz0 hz1 hz2 rfl (by decide) ⟨V.heap.size,0,none⟩ rfl ad 4 cp (bys (bs.take 4)) rfl (by decide) (Rb.take4 hl s629) (by unfold maxLen;omega) (by omega) ?_
   intro c643 w636 o644 k638
   have r642:Rbf V.heap.size w636 (some ⟨w626.heap.size,0,none⟩) (bs.take 4):=⟨Rb.own o644,fun ad e=>by injection e with e;subst e;exact g627.size⟩
   have g637:=Gr.trans g627 k638
   have s639:=Rb.gr s629 k638
   clear o644
   have r640:=r630.gr k638
   have r641:=r631.gr k638
   refine hK.out _ _ (fun hnz=>?zs645) (fun _=>?zr646)
   case zs645=>exact s639
   clear hK K
   try (simp only[Pu,List.getElem_toArray,List.getElem_cons_succ,List.getElem_cons_zero])
   refine wpAnyZ_ready (rs:=[9]) (by kernel_rfl) (by simp) ?_
   refine AllReadyZ.cons (i:=9) rfl (by kernel_rfl) ?zx667 AllReadyZ.nil
   intro K hK
   simp only[List.getElem_toArray,List.getElem_cons_succ,List.getElem_cons_zero]
   go_simp
   obtain ⟨w647,hw647⟩:∃w647,w647=w636.alloc (.cells #[(.slice (some ⟨w606.heap.size,0,none⟩) 4 4),(.slice (some ⟨w619.heap.size,0,none⟩) 8 c632),(.slice (some ⟨w626.heap.size,0,none⟩) 4 c643)] 49):=⟨_,rfl⟩
   have k649:Gr w636 w647:=by rw[hw647];exact Gr.alloc (Gr.refl _) _
   have q654:=And.intro (three_new (w:=w636) hw647) g637.size
   rw[←hw647]
   clear hw647
   have g648:=Gr.trans g637 k649
   have s650:=Rb.gr s639 k649
   have r651:=r640.gr k649
   have r652:=r641.gr k649
   have r653:=r642.gr k649
   refine hK.out _ _ (fun hnz=>?zs655) (fun _=>?zr656)
   case zs655=>exact s650
   clear hK K
   try (simp only[Pu,List.getElem_toArray,List.getElem_cons_succ,List.getElem_cons_zero])
   refine wpAnyZ_ready (rs:=[10]) (by kernel_rfl) (by simp) ?_
   refine AllReadyZ.cons (i:=10) rfl (by kernel_rfl) ?zx666 AllReadyZ.nil
   intro K hK
   simp only[List.getElem_toArray,List.getElem_cons_succ,List.getElem_cons_zero]
   go_simp
   refine hK.out _ _ (fun hnz=>?zs664) (fun _=>?zr665)
   case zs664=>exact absurd rfl hnz
   clear hK K
   try (simp only[Pu,List.getElem_toArray,List.getElem_cons_succ,List.getElem_cons_zero])
   refine wpAnyZ_done (by kernel_rfl) ?_ _
   go_wp2
   go_ret
   exact RetWr.of GV.out.size HD.out q654 r651 r652 r653 (Gr.trans GV.out g648)
  ·
   intro K hK
   simp only[List.getElem_toArray,List.getElem_cons_succ,List.getElem_cons_zero]
   go_simp
   obtain ⟨w671,hw671⟩:∃w671,w671=w606.alloc (.cells #[] 5):=⟨_,rfl⟩
   have k673:Gr w606 w671:=by rw[hw671];exact Gr.alloc (Gr.refl _) _
   rw[←hw671]
   clear hw671
   have g672:=Gr.trans g607 k673
   have s674:=Rb.gr s609 k673
   refine hK.out _ _ (fun hnz=>?zs675) (fun _=>?zr676)
   case zs675=>exact s674
   clear hK K
   try (simp only[Pu,List.getElem_toArray,List.getElem_cons_succ,List.getElem_cons_zero])
   refine wpAnyZ_ready (rs:=[0,4]) (by kernel_rfl) (by simp) ?_
   refine AllReadyZ.cons (i:=0) rfl (by kernel_rfl) ?zx821 (AllReadyZ.cons (i:=4) rfl (by kernel_rfl) ?zx822 AllReadyZ.nil)
   ·
    intro K hK
    simp only[List.getElem_toArray,List.getElem_cons_succ,List.getElem_cons_zero]
    go_simp
    obtain ⟨w677,hw677⟩:∃w677,w677=w671.alloc (.cells #[.int .u8 0, .int .u8 0, .int .u8 0, .int .u8 0] 5):=⟨_,rfl⟩
    have k679:Gr w671 w677:=by rw[hw677];exact Gr.alloc (Gr.refl _) _
    have r681:Rbf V.heap.size w677 (some ⟨w671.heap.size,0,none⟩) [0,0,0,0]:=⟨by rw[hw677];exact four_nil _,fun ad e=>by injection e with e;subst e;exact g672.size⟩
    rw[←hw677]
    clear hw677
    have g678:=Gr.trans g672 k679
    have s680:=Rb.gr s674 k679
    refine hK.out _ _ (fun hnz=>?zs682) (fun _=>?zr683)
    case zs682=>exact s680
    clear hK K
    try (simp only[Pu,List.getElem_toArray,List.getElem_cons_succ,List.getElem_cons_zero])
    refine wpAnyZ_ready (rs:=[4]) (by kernel_rfl) (by simp) ?_
    refine AllReadyZ.cons (i:=4) rfl (by kernel_rfl) ?zx727 AllReadyZ.nil
    intro K hK
    simp only[List.getElem_toArray,List.getElem_cons_succ,List.getElem_cons_zero]
    refine wp_append_e (.tmp 7) (.tmp 9) 49 rfl 5 i0 _ 1 1 Tryz.underlying49 hi0 hz0 hz1 hz2 rfl (by decide) ⟨w606.heap.size,0,none⟩ rfl (ad.add 4) 8 (cp-4) (bys (bs.drop 4)) rfl (by decide) (Rb.drop4 hl s680) (by unfold maxLen;omega) (by omega) ?_
    intro c690 w684 o691 k686
    have r689:Rbf V.heap.size w684 (some ⟨w677.heap.size,0,none⟩) (bs.drop 4):=⟨Rb.own o691,fun ad e=>by injection e with e;subst e;exact g678.size⟩
    have g685:=Gr.trans g678 k686
    have s687:=Rb.gr s680 k686
    clear o691
    have r688:=r681.gr k686
    refine hK.out _ _ (fun hnz=>?zs692) (fun _=>?zr693)
    case zs692=>exact s687
    clear hK K
    try (simp only[Pu,List.getElem_toArray,List.getElem_cons_succ,List.getElem_cons_zero])
    refine wpAnyZ_ready (rs:=[8]) (by kernel_rfl) (by simp) ?_
    refine AllReadyZ.cons (i:=8) rfl (by kernel_rfl) ?zx726 AllReadyZ.nil
    intro K hK
    simp only[List.getElem_toArray,List.getElem_cons_succ,List.getElem_cons_zero]
    refine wp_append_e (.tmp 11) (.tmp 13) 49 rfl 5 i0 _ 1 1 Tryz.underlying49 hi0 hz0 hz1 hz2 rfl (by decide) ⟨V.heap.size,0,none⟩ rfl ad 4 cp (bys (bs.take 4)) rfl (by decide) (Rb.take4 hl s687) (by unfold maxLen;omega) (by omega) ?_
    intro c701 w694 o702 k696
    have r700:Rbf V.heap.size w694 (some ⟨w684.heap.size,0,none⟩) (bs.take 4):=⟨Rb.own o702,fun ad e=>by injection e with e;subst e;exact g685.size⟩
    have g695:=Gr.trans g685 k696
    have s697:=Rb.gr s687 k696
    clear o702
    have r698:=r688.gr k696
    have r699:=r689.gr k696
    refine hK.out _ _ (fun hnz=>?zs703) (fun _=>?zr704)
    case zs703=>exact s697
    clear hK K
    try (simp only[Pu,List.getElem_toArray,List.getElem_cons_succ,List.getElem_cons_zero])
    refine wpAnyZ_ready (rs:=[9]) (by kernel_rfl) (by simp) ?_
    refine AllReadyZ.cons (i:=9) rfl (by kernel_rfl) ?zx725 AllReadyZ.nil
    intro K hK
    simp only[List.getElem_toArray,List.getElem_cons_succ,List.getElem_cons_zero]
    go_simp
    obtain ⟨w705,hw705⟩:∃w705,w705=w694.alloc (.cells #[(.slice (some ⟨w671.heap.size,0,none⟩) 4 4),(.slice (some ⟨w677.heap.size,0,none⟩) 8 c690),(.slice (some ⟨w684.heap.size,0,none⟩) 4 c701)] 49):=⟨_,rfl⟩
    have k707:Gr w694 w705:=by rw[hw705];exact Gr.alloc (Gr.refl _) _
    have q712:=And.intro (three_new (w:=w694) hw705) g695.size
    rw[←hw705]
    clear hw705
    have g706:=Gr.trans g695 k707
    have s708:=Rb.gr s697 k707
    have r709:=r698.gr k707
    have r710:=r699.gr k707
    have r711:=r700.gr k707
    refine hK.out _ _ (fun hnz=>?zs713) (fun _=>?zr714)
    case zs713=>exact s708
    clear hK K
    try (simp only[Pu,List.getElem_toArray,List.getElem_cons_succ,List.getElem_cons_zero])
    refine wpAnyZ_ready (rs:=[10]) (by kernel_rfl) (by simp) ?_
    refine AllReadyZ.cons (i:=10) rfl (by kernel_rfl) ?zx724 AllReadyZ.nil
    intro K hK
    simp only[List.getElem_toArray,List.getElem_cons_succ,List.getElem_cons_zero]
    go_simp
    refine hK.out _ _ (fun hnz=>?zs722) (fun _=>?zr723)
    case zs722=>exact absurd rfl hnz
    clear hK K
    try (simp only[Pu,List.getElem_toArray,List.getElem_cons_succ,List.getElem_cons_zero])
    refine wpAnyZ_done (by kernel_rfl) ?_ _
    go_wp2
    go_ret
    exact RetWr.of GV.out.size HD.out q712 r709 r710 r711 (Gr.trans GV.out g706)
   ·
    intro K hK
    simp only[List.getElem_toArray,List.getElem_cons_succ,List.getElem_cons_zero]
    refine wp_append_e (.tmp 7) (.tmp 9) 49 rfl 5 i0 _ 1 1 Tryz.underlying49 hi0 hz0 hz1 hz2 rfl (by decide) ⟨w606.heap.size,0,none⟩ rfl (ad.add 4) 8 (cp-4) (bys (bs.drop 4)) rfl (by decide) (Rb.drop4 hl s674) (by unfold maxLen;omega) (by omega) ?_
    intro c733 w728 o734 k730
    have r732:Rbf V.heap.size w728 (some ⟨w671.heap.size,0,none⟩) (bs.drop 4):=⟨Rb.own o734,fun ad e=>by injection e with e;subst e;exact g672.size⟩
    have g729:=Gr.trans g672 k730
    have s731:=Rb.gr s674 k730
    clear o734
    refine hK.out _ _ (fun hnz=>?zs735) (fun _=>?zr736)
    case zs735=>exact s731
    clear hK K
    try (simp only[Pu,List.getElem_toArray,List.getElem_cons_succ,List.getElem_cons_zero])
    refine wpAnyZ_ready (rs:=[0,8]) (by kernel_rfl) (by simp) ?_
    refine AllReadyZ.cons (i:=0) rfl (by kernel_rfl) ?zx819 (AllReadyZ.cons (i:=8) rfl (by kernel_rfl) ?zx820 AllReadyZ.nil)
    ·
     intro K hK
     simp only[List.getElem_toArray,List.getElem_cons_succ,List.getElem_cons_zero]
     go_simp
     obtain ⟨w737,hw737⟩:∃w737,w737=w728.alloc (.cells #[.int .u8 0, .int .u8 0, .int .u8 0, .int .u8 0] 5):=⟨_,rfl⟩
     have k739:Gr w728 w737:=by rw[hw737];exact Gr.alloc (Gr.refl _) _
     have r742:Rbf V.heap.size w737 (some ⟨w728.heap.size,0,none⟩) [0,0,0,0]:=⟨by rw[hw737];exact four_nil _,fun ad e=>by injection e with e;subst e;exact g729.size⟩
     rw[←hw737]
     clear hw737
     have g738:=Gr.trans g729 k739
     have s740:=Rb.gr s731 k739
     have r741:=r732.gr k739
     refine hK.out _ _ (fun hnz=>?zs743) (fun _=>?zr744)
     case zs743=>exact s740
     clear hK K
     try (simp only[Pu,List.getElem_toArray,List.getElem_cons_succ,List.getElem_cons_zero])
     refine wpAnyZ_ready (rs:=[8]) (by kernel_rfl) (by simp) ?_
     refine AllReadyZ.cons (i:=8) rfl (by kernel_rfl) ?zx777 AllReadyZ.nil
     intro K hK
     simp only[List.getElem_toArray,List.getElem_cons_succ,List.getElem_cons_zero]
     refine wp_append_e (.tmp 11) (.tmp 13) 49 rfl 5 i0 _ 1 1 Tryz.underlying49 hi0 hz0 hz1 hz2 rfl (by decide) ⟨V.heap.size,0,none⟩ rfl ad 4 cp (bys (bs.take 4)) rfl (by decide) (Rb.take4 hl s740) (by unfold maxLen;omega) (by omega) ?_
     intro c752 w745 o753 k747
     have r751:Rbf V.heap.size w745 (some ⟨w737.heap.size,0,none⟩) (bs.take 4):=⟨Rb.own o753,fun ad e=>by injection e with e;subst e;exact g738.size⟩
     have g746:=Gr.trans g738 k747
     have s748:=Rb.gr s740 k747
     clear o753
     have r749:=r742.gr k747
     have r750:=r741.gr k747
     refine hK.out _ _ (fun hnz=>?zs754) (fun _=>?zr755)
     case zs754=>exact s748
     clear hK K
     try (simp only[Pu,List.getElem_toArray,List.getElem_cons_succ,List.getElem_cons_zero])
     refine wpAnyZ_ready (rs:=[9]) (by kernel_rfl) (by simp) ?_
     refine AllReadyZ.cons (i:=9) rfl (by kernel_rfl) ?zx776 AllReadyZ.nil
     intro K hK
     simp only[List.getElem_toArray,List.getElem_cons_succ,List.getElem_cons_zero]
     go_simp
     obtain ⟨w756,hw756⟩:∃w756,w756=w745.alloc (.cells #[(.slice (some ⟨w728.heap.size,0,none⟩) 4 4),(.slice (some ⟨w671.heap.size,0,none⟩) 8 c733),(.slice (some ⟨w737.heap.size,0,none⟩) 4 c752)] 49):=⟨_,rfl⟩
     have k758:Gr w745 w756:=by rw[hw756];exact Gr.alloc (Gr.refl _) _
     have q763:=And.intro (three_new (w:=w745) hw756) g746.size
     rw[←hw756]
     clear hw756
     have g757:=Gr.trans g746 k758
     have s759:=Rb.gr s748 k758
     have r760:=r749.gr k758
     have r761:=r750.gr k758
     have r762:=r751.gr k758
     refine hK.out _ _ (fun hnz=>?zs764) (fun _=>?zr765)
     case zs764=>exact s759
     clear hK K
     try (simp only[Pu,List.getElem_toArray,List.getElem_cons_succ,List.getElem_cons_zero])
     refine wpAnyZ_ready (rs:=[10]) (by kernel_rfl) (by simp) ?_
     refine AllReadyZ.cons (i:=10) rfl (by kernel_rfl) ?zx775 AllReadyZ.nil
     intro K hK
     simp only[List.getElem_toArray,List.getElem_cons_succ,List.getElem_cons_zero]
     go_simp
     refine hK.out _ _ (fun hnz=>?zs773) (fun _=>?zr774)
     case zs773=>exact absurd rfl hnz
     clear hK K
     try (simp only[Pu,List.getElem_toArray,List.getElem_cons_succ,List.getElem_cons_zero])
     refine wpAnyZ_done (by kernel_rfl) ?_ _
     go_wp2
     go_ret
     exact RetWr.of GV.out.size HD.out q763 r760 r761 r762 (Gr.trans GV.out g757)
    ·
     intro K hK
     simp only[List.getElem_toArray,List.getElem_cons_succ,List.getElem_cons_zero]
     refine wp_append_e (.tmp 11) (.tmp 13) 49 rfl 5 i0 _ 1 1 Tryz.underlying49 hi0 hz0 hz1 hz2 rfl (by decide) ⟨V.heap.size,0,none⟩ rfl ad 4 cp (bys (bs.take 4)) rfl (by decide) (Rb.take4 hl s731) (by unfold maxLen;omega) (by omega) ?_
     intro c784 w778 o785 k780
     have r783:Rbf V.heap.size w778 (some ⟨w728.heap.size,0,none⟩) (bs.take 4):=⟨Rb.own o785,fun ad e=>by injection e with e;subst e;exact g729.size⟩
     have g779:=Gr.trans g729 k780
     have s781:=Rb.gr s731 k780
     clear o785
     have r782:=r732.gr k780
     refine hK.out _ _ (fun hnz=>?zs786) (fun _=>?zr787)
     case zs786=>exact s781
     clear hK K
     try (simp only[Pu,List.getElem_toArray,List.getElem_cons_succ,List.getElem_cons_zero])
     refine wpAnyZ_ready (rs:=[0]) (by kernel_rfl) (by simp) ?_
     refine AllReadyZ.cons (i:=0) rfl (by kernel_rfl) ?zx818 AllReadyZ.nil
     intro K hK
     simp only[List.getElem_toArray,List.getElem_cons_succ,List.getElem_cons_zero]
     go_simp
     obtain ⟨w788,hw788⟩:∃w788,w788=w778.alloc (.cells #[.int .u8 0, .int .u8 0, .int .u8 0, .int .u8 0] 5):=⟨_,rfl⟩
     have k790:Gr w778 w788:=by rw[hw788];exact Gr.alloc (Gr.refl _) _
     have r794:Rbf V.heap.size w788 (some ⟨w778.heap.size,0,none⟩) [0,0,0,0]:=⟨by rw[hw788];exact four_nil _,fun ad e=>by injection e with e;subst e;exact g779.size⟩
     rw[←hw788]
     clear hw788
     have g789:=Gr.trans g779 k790
     have s791:=Rb.gr s781 k790
     have r792:=r782.gr k790
     have r793:=r783.gr k790
     refine hK.out _ _ (fun hnz=>?zs795) (fun _=>?zr796)
     case zs795=>exact s791
     clear hK K
     try (simp only[Pu,List.getElem_toArray,List.getElem_cons_succ,List.getElem_cons_zero])
     refine wpAnyZ_ready (rs:=[9]) (by kernel_rfl) (by simp) ?_
     refine AllReadyZ.cons (i:=9) rfl (by kernel_rfl) ?zx817 AllReadyZ.nil
     intro K hK
     simp only[List.getElem_toArray,List.getElem_cons_succ,List.getElem_cons_zero]
     go_simp
     obtain ⟨w797,hw797⟩:∃w797,w797=w788.alloc (.cells #[(.slice (some ⟨w778.heap.size,0,none⟩) 4 4),(.slice (some ⟨w671.heap.size,0,none⟩) 8 c733),(.slice (some ⟨w728.heap.size,0,none⟩) 4 c784)] 49):=⟨_,rfl⟩
     have k799:Gr w788 w797:=by rw[hw797];exact Gr.alloc (Gr.refl _) _
     have q804:=And.intro (three_new (w:=w788) hw797) g789.size
     rw[←hw797]
     clear hw797
     have g798:=Gr.trans g789 k799
     have s800:=Rb.gr s791 k799
     have r801:=r794.gr k799
     have r802:=r792.gr k799
     have r803:=r793.gr k799
     refine hK.out _ _ (fun hnz=>?zs805) (fun _=>?zr806)
     case zs805=>exact s800
     clear hK K
     try (simp only[Pu,List.getElem_toArray,List.getElem_cons_succ,List.getElem_cons_zero])
     refine wpAnyZ_ready (rs:=[10]) (by kernel_rfl) (by simp) ?_
     refine AllReadyZ.cons (i:=10) rfl (by kernel_rfl) ?zx816 AllReadyZ.nil
     intro K hK
     simp only[List.getElem_toArray,List.getElem_cons_succ,List.getElem_cons_zero]
     go_simp
     refine hK.out _ _ (fun hnz=>?zs814) (fun _=>?zr815)
     case zs814=>exact absurd rfl hnz
     clear hK K
     try (simp only[Pu,List.getElem_toArray,List.getElem_cons_succ,List.getElem_cons_zero])
     refine wpAnyZ_done (by kernel_rfl) ?_ _
     go_wp2
     go_ret
     exact RetWr.of GV.out.size HD.out q804 r801 r802 r803 (Gr.trans GV.out g798)
end Go.Proofs.YtoncapkmaeghfaaGreat
