import Derived.Test.YtoncapkmaeghfaaGreatRunRwEnc
import Derived.Test.YtoncapkmaeghfaaGreatRunRwDo
import Derived.Test.YtoncapkmaeghfaaGreatRunWhDecH
import Derived.Laws.IdiomStrings
import Derived.Test.YtoncapkmaeghfaaGreatRunWiMay
import Derived.Test.YtoncapkmaeghfaaGreatRunWhHdr
import Derived.Test.YtoncapkmaeghfaaGreatRunFxBase
import Derived.Deep.Light
set_option linter.all false
set_option maxRecDepth 1000000
set_option maxHeartbeats 12800000
namespace Go.Proofs.YtoncapkmaeghfaaGreat
open Go.RowKit
def HbS (b:Nat) (x0 x1:Nat) (W:World):Prop:=b<W.heap.size∧W.cell? ⟨b,0,none⟩=some (.int .i64 (x0:Nat))∧W.cell? ⟨b,1,none⟩=some (.int .i64 (x1:Nat))∧W.cell? ⟨b,2,none⟩=some (.slice none 0 0)∧W.frozen? ⟨b,0,none⟩=false∧W.frozen? ⟨b,1,none⟩=false∧W.frozen? ⟨b,2,none⟩=false
theorem HbS.gr {b x0 x1:Nat} {W W':World} (h:HbS b x0 x1 W) (g:Gr W W'):HbS b x0 x1 W':=
 ⟨Nat.lt_of_lt_of_le h.1 g.size,(Below.cell g (p:=⟨b,0,none⟩) h.1).trans h.2.1,(Below.cell g (p:=⟨b,1,none⟩) h.1).trans h.2.2.1,(Below.cell g (p:=⟨b,2,none⟩) h.1).trans h.2.2.2.1,(Below.frozen g (p:=⟨b,0,none⟩) h.1).trans h.2.2.2.2.1,(Below.frozen g (p:=⟨b,1,none⟩) h.1).trans h.2.2.2.2.2.1,(Below.frozen g (p:=⟨b,2,none⟩) h.1).trans h.2.2.2.2.2.2⟩
theorem HbS.new (W:World):HbS W.heap.size 0 0 (W.alloc (.cells #[.int .i64 0, .int .i64 0, .slice none 0 0] 24)):=⟨by simp,by go_simp,by go_simp,by go_simp,by go_simp,by go_simp,by go_simp⟩
theorem HbS.put {b y0 y1:Nat} {W:World} (h:HbS b y0 y1 W) (x0 x1:Nat):HbS b x0 x1 (((W.setCell ⟨b,0,none⟩ (.int .i64 (x0:Nat))).setCell ⟨b,1,none⟩ (.int .i64 (x1:Nat))).setCell ⟨b,2,none⟩ (.slice none 0 0)):=by
 obtain ⟨h0,h1,h2,h3,h4,h5,h6⟩:=h
 have o:∀(w:World) (i j:Nat) (v:Value),j≠i→(w.setCell ⟨b,i,none⟩ v).cell? ⟨b,j,none⟩=w.cell? ⟨b,j,none⟩:=fun w i j v hij=>World.cell?_setCell_other w ⟨b,i,none⟩ ⟨b,j,none⟩ v (by first|(simp[hij];done)|(simp;omega))
 have s:∀(w:World) (i:Nat) (v u:Value),w.cell? ⟨b,i,none⟩=some u→(w.setCell ⟨b,i,none⟩ v).cell? ⟨b,i,none⟩=some v:=fun w i v u hu=>World.cell?_setCell_same' _ _ _ (by rw[hu];rfl)
 refine ⟨by simpa using h0,?_,?_,?_,?_,?_,?_⟩
 ·
  rw[o _ 2 0 _ (by decide),o _ 1 0 _ (by decide)];exact s _ _ _ _ h1
 ·
  rw[o _ 2 1 _ (by decide)];exact s _ _ _ _ ((o _ 0 1 _ (by decide)).trans h2)
 ·
  exact s _ _ _ _ ((o _ 1 2 _ (by decide)).trans ((o _ 0 2 _ (by decide)).trans h3))
 ·
  rw[World.frozen?_setCell,World.frozen?_setCell,World.frozen?_setCell];exact h4
 ·
  rw[World.frozen?_setCell,World.frozen?_setCell,World.frozen?_setCell];exact h5
 ·
  rw[World.frozen?_setCell,World.frozen?_setCell,World.frozen?_setCell];exact h6
theorem HbS.gr3 {V W:World} {b:Nat} {u0 u1 u2:Value} (g:Gr V W) (h:V.heap.size≤b):Gr V (((W.setCell ⟨b,0,none⟩ u0).setCell ⟨b,1,none⟩ u1).setCell ⟨b,2,none⟩ u2):=((g.setCell h _).setCell h _).setCell h _
theorem conv_bytes {w W:World} {A:Option Addr} {c:Nat} {l:List UInt8} (hW:Gr w W) (h:Rb w A l):(convert 49 9 (.slice A l.length c)).run Tryz.prog W= .ok (.string ⟨l.toArray⟩) W:=by
 have h':=h.gr hW
 cases A with
 | some ad=>exact run_convert_bytes_back W 49 9 5 ad c l Tryz.underlying49 Tryz.underlying5 Tryz.underlying9 (fun j hj=>by
   obtain ⟨ad',e, -,hc⟩:=h'.at hj
   injection e with e
   subst e
   exact hc)
 | none=>
  have hl:l=[]:=by
   cases l with
   | nil=>rfl
   | cons a r=>obtain ⟨ad,e, -⟩:=h'.2 (by simp);cases e
  subst hl
  rw[run_convert_bytes_string W 49 9 5 none _ c Tryz.underlying49 Tryz.underlying5 Tryz.underlying9]
  simp[Conv.bytesToString]
  rfl
theorem RetDe.yes2 {L:List UInt8} {w w5:World} {A:Option Addr} {k c B:Nat} {ag xf:Nat} {e:TypeId} (g:Gr w w5) (h:decH L=some (ag,xf,arcsAt L k)) (ho:w5.ownsRow B e 2 (.slice A k c) k (acells (arcsAt L k))) (hc:k≤c) (hB:w.heap.size<B) {u0 u1 u2:Value} :
  RetDe L w (.returned (.tuple #[.agg #[.int .i64 ag, .int .i64 xf, .slice A k c], .int .i64 0])) (((w5.setCell ⟨w.heap.size,0,none⟩ u0).setCell ⟨w.heap.size,1,none⟩ u1).setCell ⟨w.heap.size,2,none⟩ u2):=by
 have hl:=ho.lt
 refine ⟨((g.setCell (Nat.le_refl _) _).setCell (Nat.le_refl _) _).setCell (Nat.le_refl _) _,?_⟩
 rw[h]
 refine ⟨A,c,by rw[arcsAt_len],by rw[arcsAt_len];exact hc,Ri.own (own_setU (own_setU (own_setU ho (p:=⟨w.heap.size,0,none⟩) hB _) (p:=⟨w.heap.size,1,none⟩) hB _) (p:=⟨w.heap.size,2,none⟩) hB _),fun h0=>?_,fun ad e=>?_⟩
 ·
  rw[arcsAt_len] at h0
  obtain ⟨g,e, -⟩:=own_blockU ho h0
  exact ⟨g,e⟩
 have:=(hl ad.block (by rw[e];rfl)).1
 omega
theorem rhdecode_any (A:Option Addr) (c:Nat) (L:List UInt8) (hL:(L.length:Int)≤1073741824) (hc:L.length≤c) (w:World) (hr:Rb w A L):Calls Tryz.prog 45 #[.slice A L.length c] w (RetDe L w):=by
 obtain ⟨i0,hi0,hy0,hy1,hy2⟩:=info_parts info_arch
 obtain ⟨V,hV⟩:∃V,V=w.alloc (.cells #[.int .i64 0, .int .i64 0, .slice none 0 0] 24):=⟨_,rfl⟩
 have gV:Gr w V:=by rw[hV];exact Gr.alloc (Gr.refl w) _
 have hVb:HbS w.heap.size 0 0 V:=by rw[hV];exact HbS.new _
 have HWV:Hid (w.heap.size<V.heap.size):=Lib.hid hVb.1
 have HV:=Lib.hid hV
 have HGV:=Lib.hid gV
 have HR:=Lib.hid (hr.gr gV)
 obtain ⟨hz,z0,z1,z2,f0,f1,f2⟩:=hVb
 by_cases h16:L.length<16
 ·
  have h16i:(L.length:Int)<16:=by omega
  have HDN:=Lib.hid (decH_n (L:=L) (.inl (by unfold numAt;rw[if_neg (by omega)];decide)))
  clear hV gV hr
  go_enter Tryz.func45,Tryz.ntmps45
  go_upto_region 1 with (fail)
  rw[←HV.out]
  clear HV
  go_wp2
  refine bodyPost_ret (v:= .tuple #[.agg #[.int .i64 0, .int .i64 0, .slice none 0 0], .int .i64 2]) (by simp[results,Tryz.results45,go_sem, *]) rfl ?_
  exact RetDe.no HGV.out HDN.out _ _ _
 have h16i:¬(L.length:Int)<16:=by omega
 obtain ⟨ad,rfl,hab,hac⟩:=(hr.gr gV).2 (by omega)
 have hdrop:∀d,Rb V (some (ad.add d)) (L.drop d):=fun d=>⟨by rw[bys_length],fun _=>⟨_,rfl,by rw[add_blk];exact hab,fun j u hu=>by rw[add_two];exact hac (d+j) u (by rw[←hu];simp[bys])⟩⟩
 have hnum:∀d,d+4≤L.length→∀W,Gr V W→Calls Tryz.prog 82 #[.slice (some (ad.add d)) (L.length-d) (c-d)] W fun e w'=>e= .returned (.int .i64 (ofB ((L.drop d).take 4):Nat))∧Gr W w':=fun d hd W g=>by
  have:=xfrom_any (some (ad.add d)) (c-d) (L.drop d) (by rw[List.length_drop];omega) (by rw[List.length_drop];omega) W ((hdrop d).gr g)
  rw[List.length_drop] at this
  exact this
 have hat:∀j,4*(j+1)≤L.length→ofB ((L.drop (4*j)).take 4)=numAt L j:=fun j hj=>by unfold numAt;rw[if_pos hj]
 obtain ⟨x0,hx0⟩:∃x,x=numAt L 0:=⟨_,rfl⟩
 obtain ⟨x2,hx2⟩:∃x,x=numAt L 2:=⟨_,rfl⟩
 obtain ⟨x3,hx3⟩:∃x,x=numAt L 3:=⟨_,rfl⟩
 have hn0:=hnum 0 (by omega)
 have hn8:=hnum 8 (by omega)
 have hn12:=hnum 12 (by omega)
 rw[show (8:Nat)=4*2 from rfl,hat 2 (by omega),←hx2] at hn8
 rw[show (12:Nat)=4*3 from rfl,hat 3 (by omega),←hx3] at hn12
 rw[show (0:Nat)=4*0 from rfl,hat 0 (by omega),←hx0] at hn0
 rw[show ad.add (4*0)=ad from by unfold Addr.add;simp,Nat.mul_zero,Nat.sub_zero,Nat.sub_zero] at hn0
 rw[show (4*2:Nat)=7+1 from rfl,add_at] at hn8
 rw[show (4*3:Nat)=11+1 from rfl,add_at] at hn12
 have HF0:=Lib.hid hn0
 have HF8:=Lib.hid hn8
 have HF12:=Lib.hid hn12
 have HNUM:=Lib.hid hnum
 have HAT:=Lib.hid hat
 have hx3l:x3<4294967296:=by rw[hx3];exact numAt_lt L 3
 have HX:=Lib.hid (And.intro hx0 (And.intro hx2 hx3))
 have hci:(16:Int)≤(c:Int):=by omega
 have hc8:(8:Int)≤(c:Int):=by omega
 have hc12:(12:Int)≤(c:Int):=by omega
 have hl8:(8:Int)≤(L.length:Int):=by omega
 have hl12:(12:Int)≤(L.length:Int):=by omega
 have hl8n:8≤L.length:=by omega
 have hl12n:12≤L.length:=by omega
 have hn8c:¬c≤8:=by omega
 have hn12c:¬c≤12:=by omega
 have hLc:(L.length:Int)≤(c:Int):=by omega
 have HP:=Lib.hid (And.intro hab (And.intro hac hdrop))
 clear hV gV hr hab hac hdrop hnum hat hn0 hn8 hn12 hx0 hx2 hx3
 go_enter Tryz.func45,Tryz.ntmps45
 go_upto_region 1 with (fail)
 rw[←HV.out]
 clear HV
 go_upto_region 3 with (fail)
 go_cut [4] from 13 to 19 (fun p wx=>∃bd:Nat,p= .pointer (some ⟨bd,0,none⟩)∧V.heap.size≤bd∧HbS bd x0 x2 wx∧Gr V wx)
 case first=>
  refine wp_region_Z 7 (fun W=>Gr V W) (by kernel_rfl) ?_
  have hS0:Gr V V.drew:=Gr.drew (Gr.refl _)
  obtain ⟨W0,hW0⟩:∃W0,W0=V.drew:=⟨_,rfl⟩
  rw[←hW0] at hS0 ⊢
  clear hW0
  refine zu 0 rfl hS0 (fun W hS=>by go_simp;rfl) ?_
  refine zu 2 rfl hS0 (fun W hS=>by go_simp;rfl) ?_
  refine zu 3 rfl hS0 (fun W hS=>by go_simp;rfl) ?_
  refine wpAnyZ_ready (rs:=[1,6]) (by kernel_rfl) (by simp) ?_
  refine AllReadyZ.cons (i:=1) rfl (by kernel_rfl) ?zx27 (AllReadyZ.cons (i:=6) rfl (by kernel_rfl) ?zx28 AllReadyZ.nil)
  ·
   intro K hK
   simp only[List.getElem_toArray,List.getElem_cons_succ,List.getElem_cons_zero]
   go_simp
   refine (HF0.out _ hS0).mono ?_;rintro e w1 ⟨rfl,g2⟩
   have s3:=Gr.trans hS0 g2
   go_wp2_with fail
   refine hK.out _ _ (fun hnz=>?zs4) (fun _=>?zr4)
   case zs4=>exact s3
   clear hK K
   try (simp only[Pu,List.getElem_toArray,List.getElem_cons_succ,List.getElem_cons_zero])
   refine wpAnyZ_ready (rs:=[4,6]) (by kernel_rfl) (by simp) ?_
   refine AllReadyZ.cons (i:=4) rfl (by kernel_rfl) ?zx17 (AllReadyZ.cons (i:=6) rfl (by kernel_rfl) ?zx18 AllReadyZ.nil)
   ·
    intro K hK
    simp only[List.getElem_toArray,List.getElem_cons_succ,List.getElem_cons_zero]
    go_simp
    refine (HF8.out _ s3).mono ?_;rintro e w4 ⟨rfl,g5⟩
    have s6:=Gr.trans s3 g5
    go_wp2_with fail
    refine hK.out _ _ (fun hnz=>?zs5) (fun _=>?zr5)
    case zs5=>exact s6
    clear hK K
    try (simp only[Pu,List.getElem_toArray,List.getElem_cons_succ,List.getElem_cons_zero])
    refine zu 5 rfl s6 (fun W hS=>by go_simp;rfl) ?_
    refine wpAnyZ_ready (rs:=[6]) (by kernel_rfl) (by simp) ?_
    refine AllReadyZ.cons (i:=6) rfl (by kernel_rfl) ?zx10 AllReadyZ.nil
    ·
     intro K hK
     simp only[List.getElem_toArray,List.getElem_cons_succ,List.getElem_cons_zero]
     go_simp
     obtain ⟨w7,hw7⟩:∃w7,w7=w4.alloc (.cells #[.int .i64 0, .int .i64 0, .slice none 0 0] 24):=⟨_,rfl⟩
     have g8:Gr w4 w7:=by rw[hw7];exact Gr.alloc (Gr.refl _) _
     have b10:HbS w4.heap.size 0 0 w7:=by rw[hw7];exact HbS.new _
     rw[←hw7]
     have s9:=Gr.trans s6 g8
     clear hw7
     refine hK.out _ _ (fun hnz=>?zs7) (fun _=>?zr7)
     case zs7=>exact s9
     clear hK K
     try (simp only[Pu,List.getElem_toArray,List.getElem_cons_succ,List.getElem_cons_zero])
     refine wpAnyZ_ready (rs:=[7]) (by kernel_rfl) (by simp) ?_
     refine AllReadyZ.cons (i:=7) rfl (by kernel_rfl) ?zx9 AllReadyZ.nil
     ·
      intro K hK
      simp only[List.getElem_toArray,List.getElem_cons_succ,List.getElem_cons_zero]
      have n0:=b10.2.1
      have n1:=b10.2.2.1
      have n2:=b10.2.2.2.1
      have n3:=b10.2.2.2.2.1
      have n4:=b10.2.2.2.2.2.1
      have n5:=b10.2.2.2.2.2.2
      have nz:=b10.1
      go_simp
      refine hK.out _ _ (fun hnz=>?zs8) (fun _=>?zr8)
      case zs8=>exact absurd rfl hnz
      clear hK K
      try (simp only[Pu,List.getElem_toArray,List.getElem_cons_succ,List.getElem_cons_zero])
      refine wpAnyZ_done (by kernel_rfl) ?_ _
      go_wp2
      go_meet
      exact ⟨_,rfl,s6.size,HbS.put b10 x0 x2,HbS.gr3 s9 s6.size⟩
   ·
    intro K hK
    simp only[List.getElem_toArray,List.getElem_cons_succ,List.getElem_cons_zero]
    go_simp
    obtain ⟨w11,hw11⟩:∃w11,w11=w1.alloc (.cells #[.int .i64 0, .int .i64 0, .slice none 0 0] 24):=⟨_,rfl⟩
    have g12:Gr w1 w11:=by rw[hw11];exact Gr.alloc (Gr.refl _) _
    have b14:HbS w1.heap.size 0 0 w11:=by rw[hw11];exact HbS.new _
    rw[←hw11]
    have s13:=Gr.trans s3 g12
    clear hw11
    refine hK.out _ _ (fun hnz=>?zs11) (fun _=>?zr11)
    case zs11=>exact s13
    clear hK K
    try (simp only[Pu,List.getElem_toArray,List.getElem_cons_succ,List.getElem_cons_zero])
    refine wpAnyZ_ready (rs:=[4]) (by kernel_rfl) (by simp) ?_
    refine AllReadyZ.cons (i:=4) rfl (by kernel_rfl) ?zx16 AllReadyZ.nil
    ·
     intro K hK
     simp only[List.getElem_toArray,List.getElem_cons_succ,List.getElem_cons_zero]
     go_simp
     refine (HF8.out _ s13).mono ?_;rintro e w15 ⟨rfl,g16⟩
     have s17:=Gr.trans s13 g16
     have b18:=b14.gr g16
     go_wp2_with fail
     refine hK.out _ _ (fun hnz=>?zs12) (fun _=>?zr12)
     case zs12=>exact s17
     clear hK K
     try (simp only[Pu,List.getElem_toArray,List.getElem_cons_succ,List.getElem_cons_zero])
     refine zu 5 rfl s17 (fun W hS=>by go_simp;rfl) ?_
     refine wpAnyZ_ready (rs:=[7]) (by kernel_rfl) (by simp) ?_
     refine AllReadyZ.cons (i:=7) rfl (by kernel_rfl) ?zx15 AllReadyZ.nil
     ·
      intro K hK
      simp only[List.getElem_toArray,List.getElem_cons_succ,List.getElem_cons_zero]
      have n0:=b18.2.1
      have n1:=b18.2.2.1
      have n2:=b18.2.2.2.1
      have n3:=b18.2.2.2.2.1
      have n4:=b18.2.2.2.2.2.1
      have n5:=b18.2.2.2.2.2.2
      have nz:=b18.1
      go_simp
      refine hK.out _ _ (fun hnz=>?zs14) (fun _=>?zr14)
      case zs14=>exact absurd rfl hnz
      clear hK K
      try (simp only[Pu,List.getElem_toArray,List.getElem_cons_succ,List.getElem_cons_zero])
      refine wpAnyZ_done (by kernel_rfl) ?_ _
      go_wp2
      go_meet
      exact ⟨_,rfl,s3.size,HbS.put b18 x0 x2,HbS.gr3 s17 s3.size⟩
  ·
   intro K hK
   simp only[List.getElem_toArray,List.getElem_cons_succ,List.getElem_cons_zero]
   go_simp
   obtain ⟨w19,hw19⟩:∃w19,w19=W0.alloc (.cells #[.int .i64 0, .int .i64 0, .slice none 0 0] 24):=⟨_,rfl⟩
   have g20:Gr W0 w19:=by rw[hw19];exact Gr.alloc (Gr.refl _) _
   have b22:HbS W0.heap.size 0 0 w19:=by rw[hw19];exact HbS.new _
   rw[←hw19]
   have s21:=Gr.trans hS0 g20
   clear hw19
   refine hK.out _ _ (fun hnz=>?zs19) (fun _=>?zr19)
   case zs19=>exact s21
   clear hK K
   try (simp only[Pu,List.getElem_toArray,List.getElem_cons_succ,List.getElem_cons_zero])
   refine wpAnyZ_ready (rs:=[1]) (by kernel_rfl) (by simp) ?_
   refine AllReadyZ.cons (i:=1) rfl (by kernel_rfl) ?zx26 AllReadyZ.nil
   ·
    intro K hK
    simp only[List.getElem_toArray,List.getElem_cons_succ,List.getElem_cons_zero]
    go_simp
    refine (HF0.out _ s21).mono ?_;rintro e w23 ⟨rfl,g24⟩
    have s25:=Gr.trans s21 g24
    have b26:=b22.gr g24
    go_wp2_with fail
    refine hK.out _ _ (fun hnz=>?zs20) (fun _=>?zr20)
    case zs20=>exact s25
    clear hK K
    try (simp only[Pu,List.getElem_toArray,List.getElem_cons_succ,List.getElem_cons_zero])
    refine wpAnyZ_ready (rs:=[4]) (by kernel_rfl) (by simp) ?_
    refine AllReadyZ.cons (i:=4) rfl (by kernel_rfl) ?zx25 AllReadyZ.nil
    ·
     intro K hK
     simp only[List.getElem_toArray,List.getElem_cons_succ,List.getElem_cons_zero]
     go_simp
     refine (HF8.out _ s25).mono ?_;rintro e w27 ⟨rfl,g28⟩
     have s29:=Gr.trans s25 g28
     have b30:=b26.gr g28
     go_wp2_with fail
     refine hK.out _ _ (fun hnz=>?zs21) (fun _=>?zr21)
     case zs21=>exact s29
     clear hK K
     try (simp only[Pu,List.getElem_toArray,List.getElem_cons_succ,List.getElem_cons_zero])
     refine zu 5 rfl s29 (fun W hS=>by go_simp;rfl) ?_
     refine wpAnyZ_ready (rs:=[7]) (by kernel_rfl) (by simp) ?_
     refine AllReadyZ.cons (i:=7) rfl (by kernel_rfl) ?zx24 AllReadyZ.nil
     ·
      intro K hK
      simp only[List.getElem_toArray,List.getElem_cons_succ,List.getElem_cons_zero]
      have n0:=b30.2.1
      have n1:=b30.2.2.1
      have n2:=b30.2.2.2.1
      have n3:=b30.2.2.2.2.1
      have n4:=b30.2.2.2.2.2.1
      have n5:=b30.2.2.2.2.2.2
      have nz:=b30.1
      go_simp
      refine hK.out _ _ (fun hnz=>?zs23) (fun _=>?zr23)
      case zs23=>exact absurd rfl hnz
      clear hK K
      try (simp only[Pu,List.getElem_toArray,List.getElem_cons_succ,List.getElem_cons_zero])
      refine wpAnyZ_done (by kernel_rfl) ?_ _
      go_wp2
      go_meet
      exact ⟨_,rfl,hS0.size,HbS.put b30 x0 x2,HbS.gr3 s29 hS0.size⟩
 case rest=>
 obtain ⟨bd,rfl,hbV,hbd,hgx⟩:=hcut
 have zx0:=(Below.cell hgx (p:=⟨w.heap.size,0,none⟩) hz).trans z0
 have zx1:=(Below.cell hgx (p:=⟨w.heap.size,1,none⟩) hz).trans z1
 have zx2:=(Below.cell hgx (p:=⟨w.heap.size,2,none⟩) hz).trans z2
 have fx0:=(Below.frozen hgx (p:=⟨w.heap.size,0,none⟩) hz).trans f0
 have fx1:=(Below.frozen hgx (p:=⟨w.heap.size,1,none⟩) hz).trans f1
 have fx2:=(Below.frozen hgx (p:=⟨w.heap.size,2,none⟩) hz).trans f2
 have hzx:=Nat.lt_of_lt_of_le hz hgx.size
 have HGX:=Lib.hid hgx
 have HBD:=Lib.hid (And.intro hbV hbd)
 clear hgx hbV hbd z0 z1 z2 f0 f1 f2 hz
 go_upto_region 5 with (go_at_call 82;refine (HF12.out _ HGX.out).mono ?_;rintro e w2 ⟨rfl,g2⟩;have k0:=(Below.cell g2 (p:=⟨w.heap.size,0,none⟩) hzx).trans zx0;have k1:=(Below.cell g2 (p:=⟨w.heap.size,1,none⟩) hzx).trans zx1;have k2:=(Below.cell g2 (p:=⟨w.heap.size,2,none⟩) hzx).trans zx2;have l0:=(Below.frozen g2 (p:=⟨w.heap.size,0,none⟩) hzx).trans fx0;have l1:=(Below.frozen g2 (p:=⟨w.heap.size,1,none⟩) hzx).trans fx1;have l2:=(Below.frozen g2 (p:=⟨w.heap.size,2,none⟩) hzx).trans fx2;have hz2:=Nat.lt_of_lt_of_le hzx g2.size;have HB2:=Lib.hid (HBD.out.2.gr g2);have HG2:=Lib.hid (HGX.out.trans g2);clear g2 zx0 zx1 zx2 fx0 fx1 fx2 hzx)
 have w12:IntKind.i64.wrap (12*(x3:Int))=12*(x3:Int):=IntWalk.i64_in _ (by omega)
 have w16:IntKind.i64.wrap (16+12*(x3:Int))=16+12*(x3:Int):=IntWalk.i64_in _ (by omega)
 by_cases q1:x3<1
 ·
  have q1i:(x3:Int)<1:=by omega
  have HDN:=Lib.hid (decH_n (L:=L) (.inl (by rw[←HX.out.2.2];exact q1)))
  go_wp2
  refine bodyPost_ret (v:= .tuple #[.agg #[.int .i64 0, .int .i64 0, .slice none 0 0], .int .i64 2]) (by simp[results,Tryz.results45,go_sem, *]) rfl ?_
  exact RetDe.no (HGV.out.trans HG2.out) HDN.out _ _ _
 by_cases q2:8<x3
 ·
  have q1i:¬(x3:Int)<1:=by omega
  have q2i:(8:Int)<(x3:Int):=by omega
  have HDN:=Lib.hid (decH_n (L:=L) (.inr (by rw[←HX.out.2.2];exact q2)))
  go_wp2
  refine bodyPost_ret (v:= .tuple #[.agg #[.int .i64 0, .int .i64 0, .slice none 0 0], .int .i64 2]) (by simp[results,Tryz.results45,go_sem, *]) rfl ?_
  exact RetDe.no (HGV.out.trans HG2.out) HDN.out _ _ _
 by_cases q3:L.length<16+12*x3
 ·
  have q1i:¬(x3:Int)<1:=by omega
  have q2i:¬(8:Int)<(x3:Int):=by omega
  have q3i:(L.length:Int)<16+12*(x3:Int):=by omega
  have HDN:Hid (decH L=none):=Lib.hid (decH_short (L:=L) (k:=x3) (by omega) (by rw[←HX.out.2.2];exact Nat.le_refl _))
  go_wp2
  refine bodyPost_ret (v:= .tuple #[.agg #[.int .i64 0, .int .i64 0, .slice none 0 0], .int .i64 2]) (by simp[results,Tryz.results45,go_sem, *]) rfl ?_
  exact RetDe.no (HGV.out.trans HG2.out) HDN.out _ _ _
 have q1i:¬(x3:Int)<1:=by omega
 have q2i:¬(8:Int)<(x3:Int):=by omega
 have q3i:¬(L.length:Int)<16+12*(x3:Int):=by omega
 have HQ:=Lib.hid (And.intro q1 (And.intro q2 q3))
 clear q1 q2 q3
 go_wp2
 obtain ⟨wx,hwx⟩:∃wx,wx=w2:=⟨_,rfl⟩
 rw[←hwx] at HB2 HG2 k0 k1 k2 l0 l1 l2 hz2 ⊢
 clear hwx
 have HZL:=Lib.hid (And.intro k0 (And.intro k1 (And.intro k2 (And.intro l0 (And.intro l1 (And.intro l2 hz2))))))
 have HBX:Hid (bd<wx.heap.size):=Lib.hid HB2.out.1
 clear k0 k1 k2 l0 l1 l2
 go_loopw [6] (fun i wr=>∃(k:Nat) (v:Value),k≤x3∧i= .int .i64 k∧Kp (fun q=>q=bd) wx wr∧wr.cell? ⟨bd,0,none⟩=some (.int .i64 (x0:Nat))∧wr.cell? ⟨bd,1,none⟩=some (.int .i64 (x2:Nat))∧wr.cell? ⟨bd,2,none⟩=some v∧wr.frozen? ⟨bd,2,none⟩=false∧wr.ownsRow wx.heap.size 69 2 v k (acells (arcsAt L k))) (fun i _=>x3-(intOf i).toNat)
 case atStart=>exact ⟨0, .slice none 0 0,Nat.zero_le _,rfl,Kp.refl _ _,HB2.out.2.1,HB2.out.2.2.1,HB2.out.2.2.2.1,HB2.out.2.2.2.2.2.2,World.ownsRow_nil _ _ _ _⟩
 case round=>
  obtain ⟨k,v,hk,rfl,hkp,y0,yx,y2,yf,hown⟩:=hrel
  have hbw:bd<wr.heap.size:=Nat.lt_of_lt_of_le HBX.out hkp.size
  obtain ⟨A4,c4,hv4⟩:=own_form hown
  subst hv4
  have hnbd:∀z,z<V.heap.size→¬z=bd:=fun z hz e=>by have:=HBD.out.1;omega
  have hgr:Gr V wr:=((Kp.of_gr (fun q=>q=bd) HG2.out).trans hkp (fun _ _ e=>e)).gr (fun q hq e=>hnbd q hq e)
  by_cases hlt:k<x3
  ·
   have hlti:(k:Int)<(x3:Int):=by omega
   have hkb:16+12*x3≤L.length∧x3≤8:=by have:=HQ.out;omega
   have hk1:=HNUM.out (20+12*k) (by omega)
   have hk2:=HNUM.out (24+12*k) (by omega)
   rw[show 20+12*k=4*(4+3*k+1) by omega,HAT.out _ (by omega),show 4*(4+3*k+1)=20+12*k by omega] at hk1
   rw[show 24+12*k=4*(4+3*k+2) by omega,HAT.out _ (by omega),show 4*(4+3*k+2)=24+12*k by omega] at hk2
   obtain ⟨y1,hy1'⟩:∃y1,y1=numAt L (4+3*k+1):=⟨_,rfl⟩
   obtain ⟨yc,hyc⟩:∃yc,yc=numAt L (4+3*k+2):=⟨_,rfl⟩
   rw[←hy1'] at hk1
   rw[←hyc] at hk2
   have HARC:Hid (arcsAt L (k+1)=arcsAt L k++[(y1,yc)]):=Lib.hid (by rw[arcsAt];unfold arcAt;rw[←hy1',←hyc])
   have HK1:=Lib.hid hk1
   have HK2:=Lib.hid hk2
   have HOWN:=Lib.hid hown
   have HGR:=Lib.hid hgr
   have HKP:=Lib.hid hkp
   have HK:=Lib.hid hlt
   have u1:IntKind.i64.wrap (12*(k:Int))=12*(k:Int):=IntWalk.i64_in _ (by omega)
   obtain ⟨n1,hn1⟩:∃n1:Nat,n1=20+12*k:=⟨_,rfl⟩
   obtain ⟨n2,hn2⟩:∃n2:Nat,n2=24+12*k:=⟨_,rfl⟩
   have u2:IntKind.i64.wrap (20+12*(k:Int))=(n1:Int):=by rw[hn1];rw[IntWalk.i64_in _ (by omega)];omega
   have u3:IntKind.i64.wrap (24+12*(k:Int))=(n2:Int):=by rw[hn2];rw[IntWalk.i64_in _ (by omega)];omega
   rw[←hn1] at HK1
   rw[←hn2] at HK2
   have m1:(n1:Int)≤(L.length:Int):=by omega
   have m2:(n2:Int)≤(L.length:Int):=by omega
   have m3:n1<c:=by omega
   have m4:n2<c:=by omega
   have m5:n1≤L.length:=by omega
   have m6:n2≤L.length:=by omega
   have m7:¬c≤n1:=by omega
   have m9:¬c=n1:=by omega
   have m10:¬c=n2:=by omega
   have m8:¬c≤n2:=by omega
   have hx3i:(x3:Int)≤8:=by omega
   clear hk1 hk2 hy1' hyc hown hgr hkp hn1 hn2 hkb hnbd
   go_upto_region 10 with (fail)
   refine wp_region_Z 18 (fun W=>W.cell? ⟨bd,2,none⟩=some (.slice A4 k c4)) (by kernel_rfl) ?_
   have hS0:(fun W=>W.cell? ⟨bd,2,none⟩=some (.slice A4 k c4)) wr.drew:=y2
   have g0:Gr wr wr.drew:=Gr.drew (Gr.refl _)
   obtain ⟨W0,hW0⟩:∃W0,W0=wr.drew:=⟨_,rfl⟩
   rw[←hW0] at hS0 g0 ⊢
   clear hW0
   refine zu 0 rfl hS0 (fun W hS=>by go_simp;rfl) ?_
   refine zu 1 rfl hS0 (fun W hS=>by have s0:W.cell? ⟨bd,2,none⟩=_:=hS;go_simp;rfl) ?_
   refine zu 2 rfl hS0 (fun W hS=>by go_simp;rfl) ?_
   refine zu 3 rfl hS0 (fun W hS=>by go_simp;rfl) ?_
   refine zu 4 rfl hS0 (fun W hS=>by go_simp;rfl) ?_
   refine zu 5 rfl hS0 (fun W hS=>by go_simp;rfl) ?_
   refine zu 6 rfl hS0 (fun W hS=>by go_simp;rfl) ?_
   refine zu 8 rfl hS0 (fun W hS=>by go_simp;rfl) ?_
   refine zu 9 rfl hS0 (fun W hS=>by go_simp;rfl) ?_
   refine zu 10 rfl hS0 (fun W hS=>by go_simp;rfl) ?_
   refine zu 11 rfl hS0 (fun W hS=>by go_simp;rfl) ?_
   refine zu 12 rfl hS0 (fun W hS=>by go_simp;rfl) ?_
   refine wpAnyZ_ready (rs:=[7]) (by kernel_rfl) (by simp) ?_
   refine AllReadyZ.cons (i:=7) rfl (by kernel_rfl) ?zx41 AllReadyZ.nil
   intro K hK
   simp only[List.getElem_toArray,List.getElem_cons_succ,List.getElem_cons_zero]
   go_simp
   refine (HK1.out W0 (HGR.out.trans g0)).mono ?_;rintro x W1 ⟨rfl,g1⟩
   have hb1:=Nat.lt_of_lt_of_le hbw g0.size
   have hS1:(fun W=>W.cell? ⟨bd,2,none⟩=some (.slice A4 k c4)) W1:=(Below.cell g1 (p:=⟨bd,2,none⟩) hb1).trans hS0
   go_wp2_with fail
   refine hK.out _ _ (fun hnz=>?zs41) (fun _=>?zr41)
   case zs41=>exact hS1
   clear hK K
   try (simp only[Pu,List.getElem_toArray,List.getElem_cons_succ,List.getElem_cons_zero])
   refine wpAnyZ_ready (rs:=[13]) (by kernel_rfl) (by simp) ?_
   refine AllReadyZ.cons (i:=13) rfl (by kernel_rfl) ?zx42 AllReadyZ.nil
   intro K hK
   simp only[List.getElem_toArray,List.getElem_cons_succ,List.getElem_cons_zero]
   go_simp
   refine (HK2.out W1 (HGR.out.trans (g0.trans g1))).mono ?_;rintro x W2 ⟨rfl,g2⟩
   have hb2:=Nat.lt_of_lt_of_le hb1 g1.size
   have hS2:(fun W=>W.cell? ⟨bd,2,none⟩=some (.slice A4 k c4)) W2:=(Below.cell g2 (p:=⟨bd,2,none⟩) hb2).trans hS1
   go_wp2_with fail
   refine hK.out _ _ (fun hnz=>?zs42) (fun _=>?zr42)
   case zs42=>exact hS2
   clear hK K
   try (simp only[Pu,List.getElem_toArray,List.getElem_cons_succ,List.getElem_cons_zero])
   refine zu 14 rfl hS2 (fun W hS=>by go_simp;rfl) ?_
   refine wpAnyZ_ready (rs:=[15]) (by kernel_rfl) (by simp) ?_
   refine AllReadyZ.cons (i:=15) rfl (by kernel_rfl) ?zx44 AllReadyZ.nil
   intro K hK
   simp only[List.getElem_toArray,List.getElem_cons_succ,List.getElem_cons_zero]
   go_simp
   obtain ⟨W3,hW3⟩:∃W3,W3=W2.alloc (.cells #[.int .i64 (y1:Nat), .int .i64 (yc:Nat)] 69):=⟨_,rfl⟩
   have hrx:Rd W3 2 (some ⟨W2.heap.size,0,none⟩) 1 (acells [(y1,yc)]):=by rw[hW3];exact Rd.newU (W:=W2) (n:=1) (size:=2) rfl 69 (acells [(y1,yc)]) rfl
   have g3:Gr W2 W3:=by rw[hW3];exact Gr.alloc (Gr.refl _) _
   have hb3:=Nat.lt_of_lt_of_le hb2 g2.size
   have hS3:(fun W=>W.cell? ⟨bd,2,none⟩=some (.slice A4 k c4)) W3:=(Below.cell g3 (p:=⟨bd,2,none⟩) hb3).trans hS2
   have gA:=g0.trans (g1.trans (g2.trans g3))
   have own3:=own_grU HOWN.out gA
   rw[←hW3]
   clear hW3
   refine hK.out _ _ (fun hnz=>?zs44) (fun _=>?zr44)
   case zs44=>exact hS3
   clear hK K
   try (simp only[Pu,List.getElem_toArray,List.getElem_cons_succ,List.getElem_cons_zero])
   refine wpAnyZ_ready (rs:=[16]) (by kernel_rfl) (by simp) ?_
   refine AllReadyZ.cons (i:=16) rfl (by kernel_rfl) ?zx45 AllReadyZ.nil
   intro K hK
   simp only[List.getElem_toArray,List.getElem_cons_succ,List.getElem_cons_zero]
   refine wp_append_rd0 (.tmp 43) (.tmp 57) 22 rfl wx.heap.size 69 i0 _ 2 16 Tryz.underlying22 hi0 hy0 hy1 hy2 rfl (by decide) _ k _ rfl own3 (some ⟨W2.heap.size,0,none⟩) 1 _ (acells [(y1,yc)]) rfl hrx (acells_one _) (by unfold maxLen;omega) (by omega) (Nat.le_trans HKP.out.size gA.size) ?_
   intro v' w9 own9 hgr9 hob9
   have hB:∀q,(Value.slice A4 k c4).ownBlock=some q→wx.heap.size≤q:=fun q e=>(own3.lt q e).1
   have hbx:bd<wx.heap.size:=HBX.out
   have k9:Kp (fun q=>(Value.slice A4 k c4).ownBlock=some q) wr w9:=(Kp.of_gr _ gA).grown hgr9 (fun q hq=> .inl hq)
   have hnb:¬(Value.slice A4 k c4).ownBlock=some bd:=fun e=>by have:=hB bd e;omega
   have hS9:(fun W=>W.cell? ⟨bd,2,none⟩=some (.slice A4 k c4)) w9:=(k9.cell (a:=⟨bd,2,none⟩) hbw hnb).trans y2
   have n0:=(k9.cell (a:=⟨bd,0,none⟩) hbw hnb).trans y0
   have n1:=(k9.cell (a:=⟨bd,1,none⟩) hbw hnb).trans yx
   have nf:=(k9.frozen (a:=⟨bd,2,none⟩) hbw hnb).trans yf
   have hb9:=Nat.lt_of_lt_of_le hbw k9.size
   have hvo9:=own_form own9
   have H9:=Lib.hid (And.intro own9 (HKP.out.trans k9 (fun q hq e=>by have:=hB q e;omega)))
   clear own9 hgr9 hob9 k9 hB own3 hrx
   obtain ⟨A9,c9,hv9⟩:=hvo9
   subst hv9
   refine hK.out _ _ (fun hnz=>?zs45) (fun _=>?zr45)
   case zs45=>exact hS9
   clear hK K
   try (simp only[Pu,List.getElem_toArray,List.getElem_cons_succ,List.getElem_cons_zero])
   refine zu 17 rfl hS9 (fun W hS=>by go_simp;rfl) ?_
   refine wpAnyZ_ready (rs:=[18]) (by kernel_rfl) (by simp) ?_
   refine AllReadyZ.cons (i:=18) rfl (by kernel_rfl) ?zx47 AllReadyZ.nil
   intro K hK
   simp only[List.getElem_toArray,List.getElem_cons_succ,List.getElem_cons_zero]
   have s0:w9.cell? ⟨bd,2,none⟩=_:=hS9
   go_simp
   refine hK.out _ _ (fun hnz=>?zs47) (fun _=>?zr47)
   case zs47=>exact absurd rfl hnz
   clear hK K
   try (simp only[Pu,List.getElem_toArray,List.getElem_cons_succ,List.getElem_cons_zero])
   refine wpAnyZ_done (by kernel_rfl) ?_ _
   go_wp2
   go_roundw
   case rel=>
    have s9:w9.cell? ⟨bd,2,none⟩=some (.slice A4 k c4):=hS9
    have kS:Kp (fun q=>q=bd) w9 (w9.setCell ⟨bd,2,none⟩ (.slice A9 (k+1) c9)):=(Kp.refl (fun q=>q=bd) w9).set (p:=⟨bd,2,none⟩) (.inl rfl) _
    refine ⟨k+1, .slice A9 (k+1) c9,HK.out,by go_num,H9.out.2.trans kS (fun _ _ e=>e),(cell_off _ (by decide)).trans n0,(cell_off _ (by decide)).trans n1,World.cell?_setCell_same' _ _ _ (by rw[s9];rfl),by rw[World.frozen?_setCell];exact nf,?_⟩
    rw[HARC.out,acells_append]
    exact kS.own H9.out.1 (fun i hi e=>by have:=(H9.out.1.lt i hi).1;have:=HBX.out;omega)
   case measure=>have:=HK.out;simp[intOf];omega
  ·
   have hkk:k=x3:=by omega
   subst hkk
   have hml:=arcsAt_len L k
   obtain ⟨m,hm⟩:∃m,m=arcsAt L k:=⟨_,rfl⟩
   rw[←hm] at hml hown
   have hri:Ri wr A4 (ints m):=Ri.own hown
   have hkz:w.heap.size<wx.heap.size:=Nat.lt_of_lt_of_le (Nat.lt_of_lt_of_le HZL.out.2.2.2.2.2.2 (Nat.le_refl _)) (Nat.le_refl _)
   have hwV:w.heap.size<V.heap.size:=HWV.out
   have nwb:¬w.heap.size=bd:=fun e=>by have:=HBD.out.1;omega
   have k0:=(hkp.cell (a:=⟨w.heap.size,0,none⟩) hkz nwb).trans HZL.out.1
   have k1:=(hkp.cell (a:=⟨w.heap.size,1,none⟩) hkz nwb).trans HZL.out.2.1
   have k2:=(hkp.cell (a:=⟨w.heap.size,2,none⟩) hkz nwb).trans HZL.out.2.2.1
   have l0:=(hkp.frozen (a:=⟨w.heap.size,0,none⟩) hkz nwb).trans HZL.out.2.2.2.1
   have l1:=(hkp.frozen (a:=⟨w.heap.size,1,none⟩) hkz nwb).trans HZL.out.2.2.2.2.1
   have l2:=(hkp.frozen (a:=⟨w.heap.size,2,none⟩) hkz nwb).trans HZL.out.2.2.2.2.2.1
   have hz2:=Nat.lt_of_lt_of_le hkz hkp.size
   have HW:=Lib.hid (And.intro hown (And.intro hgr (Nat.lt_of_lt_of_le (Nat.lt_succ_self _) (show w.heap.size+1≤wx.heap.size by omega))))
   have HM:=Lib.hid (show decH L=(bif mayH x0 x2 (ints m)&&(hdrS x0 x2 m).isPrefixOf L then some (x0,x2,m) else none) from by
    rw[decH_in (by rw[←HX.out.2.2];have:=HQ.out;omega) (by rw[←HX.out.2.2];have:=HQ.out;omega),←HX.out.1,←HX.out.2.1,←HX.out.2.2,←hm,show Nat.ble (16+12*k) L.length=true from by rw[Nat.ble_eq];have:=HQ.out;omega,Bool.true_and])
   have HMM:=Lib.hid hm
   have hcap:=own_capU hown
   rw[←hml] at y2 hcap ⊢
   have HML:=Lib.hid hml
   clear hml
   cases hMY:mayH x0 x2 (ints m)
   ·
    have HDN:Hid (decH L=none):=Lib.hid (by rw[HM.out,hMY];rfl)
    have hen:=rencode_bad x0 x2 A4 c4 (ints m) hMY wr hri
    rw[ints_len] at hen
    have HEN:=Lib.hid hen
    clear hen hMY hri hown hgr hkp hnbd hlt hk nwb hkz hm
    go_upto_region 12 with (go_at_call 34;refine HEN.out.mono ?_;rintro e wz ⟨rfl,gz⟩;have p0:=(Below.cell gz (p:=⟨w.heap.size,0,none⟩) hz2).trans k0;have p1:=(Below.cell gz (p:=⟨w.heap.size,1,none⟩) hz2).trans k1;have p2:=(Below.cell gz (p:=⟨w.heap.size,2,none⟩) hz2).trans k2;have f0:=(Below.frozen gz (p:=⟨w.heap.size,0,none⟩) hz2).trans l0;have f1:=(Below.frozen gz (p:=⟨w.heap.size,1,none⟩) hz2).trans l1;have f2:=(Below.frozen gz (p:=⟨w.heap.size,2,none⟩) hz2).trans l2;have hzz:=Nat.lt_of_lt_of_le hz2 gz.size;have b0:=(Below.cell gz (p:=⟨bd,0,none⟩) hbw).trans y0;have b1:=(Below.cell gz (p:=⟨bd,1,none⟩) hbw).trans yx;have b2:=(Below.cell gz (p:=⟨bd,2,none⟩) hbw).trans y2;have hbz:=Nat.lt_of_lt_of_le hbw gz.size;have HGZ:=Lib.hid (And.intro (HW.out.2.1.trans gz) gz);clear gz k0 k1 k2 l0 l1 l2 hz2 y0 yx y2 yf hbw)
    refine region_R (by kernel_rfl) (by kernel_rfl) ?_
    iterate 3 (refine rv ?_;simp only[Pu])
    iterate 8 (refine rs ?_;simp only[Pu])
    refine rv ?_;simp only[Pu]
    refine r_nil ?_
    intro w8 hw8
    have p0':=(Below.cell hw8 (p:=⟨w.heap.size,0,none⟩) hzz).trans p0
    have p1':=(Below.cell hw8 (p:=⟨w.heap.size,1,none⟩) hzz).trans p1
    have p2':=(Below.cell hw8 (p:=⟨w.heap.size,2,none⟩) hzz).trans p2
    have f0':=(Below.frozen hw8 (p:=⟨w.heap.size,0,none⟩) hzz).trans f0
    have f1':=(Below.frozen hw8 (p:=⟨w.heap.size,1,none⟩) hzz).trans f1
    have f2':=(Below.frozen hw8 (p:=⟨w.heap.size,2,none⟩) hzz).trans f2
    have b0':=(Below.cell hw8 (p:=⟨bd,0,none⟩) hbz).trans b0
    have b1':=(Below.cell hw8 (p:=⟨bd,1,none⟩) hbz).trans b1
    have b2':=(Below.cell hw8 (p:=⟨bd,2,none⟩) hbz).trans b2
    have HG9:=Lib.hid (HGZ.out.1.trans hw8)
    have HZ9:=Lib.hid (HGZ.out.2.trans hw8)
    clear hw8 p0 p1 p2 f0 f1 f2 b0 b1 b2 hzz hbz
    go_wp2
    refine bodyPost_ret (v:= .tuple #[.agg #[.int .i64 0, .int .i64 0, .slice none 0 0], .int .i64 2]) (by simp[results,Tryz.results45,go_sem, *]) rfl ?_
    exact RetDe.no (HGV.out.trans HG9.out) HDN.out _ _ _
   ·
    obtain ⟨T,hT⟩:∃T,T=hdrS x0 x2 m:=⟨_,rfl⟩
    have hTl:T.length=16+12*m.length:=by rw[hT];exact hdrS_len x0 x2 m
    have hen:=rencode_any x0 x2 A4 c4 m hMY wr hri
    rw[←hT] at hen
    have HEN:=Lib.hid hen
    rw[hMY,Bool.true_and,←hT] at HM
    have hTL:T.length≤L.length:=by have:=HQ.out;have:=HML.out;omega
    have HTT:Hid ((L.take T.length).length=T.length):=Lib.hid (by rw[List.length_take];omega)
    have HTB:Hid (Rb V (some ad) (L.take T.length)):=Lib.hid ⟨by rw[bys_length],fun _=>⟨ad,rfl,HP.out.1,fun j u hu=>HP.out.2.1 j u (by
     rw[bys_take,List.getElem?_take] at hu
     split at hu
     ·
      exact hu
     ·
      cases hu)⟩⟩
    obtain ⟨s1,hs1⟩:∃s1:ByteArray,s1=⟨T.toArray⟩:=⟨_,rfl⟩
    obtain ⟨s2,hs2⟩:∃s2:ByteArray,s2=⟨(L.take T.length).toArray⟩:=⟨_,rfl⟩
    have hne:(s1.toList==s2.toList)=T.isPrefixOf L:=by
     have e:s1=s2↔T=L.take T.length:=by
      rw[hs1,hs2]
      constructor
      ·
       intro h;injection h with h;simpa using h
      ·
       intro h;rw[←h]
     cases hp:T.isPrefixOf L
     ·
      rw[beq_eq_false_iff_ne]
      intro h
      have hsx:s1=s2:=by rw[ByteArray.toList_eq,ByteArray.toList_eq] at h;exact ByteArray.ext (Array.toList_inj.1 h)
      have:T.isPrefixOf L=true:=by rw[List.isPrefixOf_iff_prefix];exact List.prefix_iff_eq_take.2 (e.1 hsx)
      rw[hp] at this
      cases this
     ·
      rw[beq_iff_eq]
      rw[List.isPrefixOf_iff_prefix] at hp
      rw[e.2 (List.prefix_iff_eq_take.1 hp)]
    have hne2:(s1.toList != s2.toList)= !T.isPrefixOf L:=by rw[←hne];rfl
    have HS:=Lib.hid (And.intro hs1 hs2)
    have hTi:(T.length:Int)≤(c:Int):=by omega
    have hTn:T.length≤c:=by omega
    clear hen hMY hri hown hgr hkp hnbd hlt hk nwb hkz hm hT hTl hs1 hs2
    go_upto_region 12 with (go_at_call 34;refine HEN.out.mono ?_;rintro e wz ⟨A1,c1,rfl,hc1,hrb1,gz,hfr1⟩;have HC1:=Lib.hid hrb1;have p0:=(Below.cell gz (p:=⟨w.heap.size,0,none⟩) hz2).trans k0;have p1:=(Below.cell gz (p:=⟨w.heap.size,1,none⟩) hz2).trans k1;have p2:=(Below.cell gz (p:=⟨w.heap.size,2,none⟩) hz2).trans k2;have f0:=(Below.frozen gz (p:=⟨w.heap.size,0,none⟩) hz2).trans l0;have f1:=(Below.frozen gz (p:=⟨w.heap.size,1,none⟩) hz2).trans l1;have f2:=(Below.frozen gz (p:=⟨w.heap.size,2,none⟩) hz2).trans l2;have hzz:=Nat.lt_of_lt_of_le hz2 gz.size;have b0:=(Below.cell gz (p:=⟨bd,0,none⟩) hbw).trans y0;have b1:=(Below.cell gz (p:=⟨bd,1,none⟩) hbw).trans yx;have b2:=(Below.cell gz (p:=⟨bd,2,none⟩) hbw).trans y2;have hbz:=Nat.lt_of_lt_of_le hbw gz.size;have HGZ:=Lib.hid (And.intro (HW.out.2.1.trans gz) gz);clear gz k0 k1 k2 l0 l1 l2 hz2 y0 yx y2 yf hbw;clear hrb1 hfr1)
    have HCV1:Hid (∀W,Gr wz W→(convert 49 9 (.slice A1 T.length c1)).run Tryz.prog W= .ok (.string s1) W):=Lib.hid fun W g=>by rw[HS.out.1];exact conv_bytes g HC1.out
    have HCV2:Hid (∀W,Gr wz W→(convert 49 9 (.slice (some ad) T.length c)).run Tryz.prog W= .ok (.string s2) W):=Lib.hid fun W g=>by
     rw[HS.out.2]
     have:=conv_bytes (c:=c) g (HTB.out.gr HGZ.out.1)
     rw[HTT.out] at this
     exact this
    cases hP:T.isPrefixOf L
    ·
     rw[hP] at hne hne2 HM
     have HDN:Hid (decH L=none):=HM
     clear hP
     refine region_R (by kernel_rfl) (by kernel_rfl) ?_
     iterate 4 (refine rv ?_;simp only[Pu])
     refine r_val (v:=?qv9) (by kernel_rfl) (fun W hW=>?qh9) ?qr9
     case qh9=>have e1:=HCV1.out W hW;go_light;go_simp;rfl
     simp only[Pu]
     iterate 4 (refine rv ?_;simp only[Pu])
     refine r_val (v:=?qv14) (by kernel_rfl) (fun W hW=>?qh14) ?qr14
     case qh14=>have e2:=HCV2.out W hW;go_light;go_simp;rfl
     simp only[Pu]
     iterate 2 (refine rv ?_;simp only[Pu])
     refine r_nil ?_
     intro w8 hw8
     have p0':=(Below.cell hw8 (p:=⟨w.heap.size,0,none⟩) hzz).trans p0
     have p1':=(Below.cell hw8 (p:=⟨w.heap.size,1,none⟩) hzz).trans p1
     have p2':=(Below.cell hw8 (p:=⟨w.heap.size,2,none⟩) hzz).trans p2
     have f0':=(Below.frozen hw8 (p:=⟨w.heap.size,0,none⟩) hzz).trans f0
     have f1':=(Below.frozen hw8 (p:=⟨w.heap.size,1,none⟩) hzz).trans f1
     have f2':=(Below.frozen hw8 (p:=⟨w.heap.size,2,none⟩) hzz).trans f2
     have b0':=(Below.cell hw8 (p:=⟨bd,0,none⟩) hbz).trans b0
     have b1':=(Below.cell hw8 (p:=⟨bd,1,none⟩) hbz).trans b1
     have b2':=(Below.cell hw8 (p:=⟨bd,2,none⟩) hbz).trans b2
     have HG9:=Lib.hid (HGZ.out.1.trans hw8)
     have HZ9:=Lib.hid (HGZ.out.2.trans hw8)
     clear hw8 p0 p1 p2 f0 f1 f2 b0 b1 b2 hzz hbz
     go_wp2
     refine bodyPost_ret (v:= .tuple #[.agg #[.int .i64 0, .int .i64 0, .slice none 0 0], .int .i64 2]) (by simp[results,Tryz.results45,go_sem, *]) rfl ?_
     exact RetDe.no (HGV.out.trans HG9.out) HDN.out _ _ _
    ·
     rw[hP] at hne hne2 HM
     clear hP
     refine region_R (by kernel_rfl) (by kernel_rfl) ?_
     iterate 4 (refine rv ?_;simp only[Pu])
     refine r_val (v:=?qv21) (by kernel_rfl) (fun W hW=>?qh21) ?qr21
     case qh21=>have e1:=HCV1.out W hW;go_light;go_simp;rfl
     simp only[Pu]
     iterate 4 (refine rv ?_;simp only[Pu])
     refine r_val (v:=?qv26) (by kernel_rfl) (fun W hW=>?qh26) ?qr26
     case qh26=>have e2:=HCV2.out W hW;go_light;go_simp;rfl
     simp only[Pu]
     iterate 2 (refine rv ?_;simp only[Pu])
     refine r_nil ?_
     intro w8 hw8
     have p0':=(Below.cell hw8 (p:=⟨w.heap.size,0,none⟩) hzz).trans p0
     have p1':=(Below.cell hw8 (p:=⟨w.heap.size,1,none⟩) hzz).trans p1
     have p2':=(Below.cell hw8 (p:=⟨w.heap.size,2,none⟩) hzz).trans p2
     have f0':=(Below.frozen hw8 (p:=⟨w.heap.size,0,none⟩) hzz).trans f0
     have f1':=(Below.frozen hw8 (p:=⟨w.heap.size,1,none⟩) hzz).trans f1
     have f2':=(Below.frozen hw8 (p:=⟨w.heap.size,2,none⟩) hzz).trans f2
     have b0':=(Below.cell hw8 (p:=⟨bd,0,none⟩) hbz).trans b0
     have b1':=(Below.cell hw8 (p:=⟨bd,1,none⟩) hbz).trans b1
     have b2':=(Below.cell hw8 (p:=⟨bd,2,none⟩) hbz).trans b2
     have HG9:=Lib.hid (HGZ.out.1.trans hw8)
     have HZ9:=Lib.hid (HGZ.out.2.trans hw8)
     clear hw8 p0 p1 p2 f0 f1 f2 b0 b1 b2 hzz hbz
     go_wp2
     refine bodyPost_ret (v:= .tuple #[.agg #[.int .i64 (x0:Nat), .int .i64 (x2:Nat), .slice A4 m.length c4], .int .i64 0]) (by simp[results,Tryz.results45,go_sem, *]) rfl ?_
     have hmm:=HMM.out
     subst hmm
     rw[arcsAt_len]
     refine RetDe.yes2 (HGV.out.trans HG9.out) HM.out (own_grU HW.out.1 HZ9.out) ?_ HW.out.2.2
     rw[←arcsAt_len L k]
     exact hcap
theorem beB_eight (N:Nat):beB N 8=beB (N/4294967296) 4++beB (N%4294967296) 4:=by
 unfold beB beB beB beB beB beB beB beB beB
 simp only[List.cons_append,List.nil_append,List.cons.injEq,and_true]
 refine ⟨?_,?_,?_,?_,?_,?_,?_,?_⟩<;>congr 1
 all_goals simp only[show (256:Nat)^7=72057594037927936 from rfl,show (256:Nat)^6=281474976710656 from rfl,show (256:Nat)^5=1099511627776 from rfl,show (256:Nat)^4=4294967296 from rfl,show (256:Nat)^3=16777216 from rfl,show (256:Nat)^2=65536 from rfl,show (256:Nat)^1=256 from rfl,show (256:Nat)^0=1 from rfl]
 all_goals omega
theorem and_low (x:Nat) (h:x<18446744073709551616):bits .and .u64 (x:Int) 4294967295=((x%4294967296:Nat):Int):=by
 rw[show (4294967295:Int)=((4294967295:Nat):Int) from rfl,bits_and_u64_nat x 4294967295 h (by decide),show (4294967295:Nat)=2^32-1 from rfl,Nat.and_two_pow_sub_one_eq_mod]
theorem own_four (base:Nat) (w:World) (l:List UInt8) (hb:base≤w.heap.size) (h:l.length=4):(w.alloc (.cells (bys l).toArray 5)).ownsRow base 5 1 (.slice (some ⟨w.heap.size,0,none⟩) 4 4) 4 (bys l):=by
 have:=World.ownsRow_lit (e:=5) (size:=1) (base:=base) w (bys l).toArray 4 hb (by decide) (by simp[bys,h])
 simpa using this
theorem xenc_any (t n:Int) (hn: -9223372036854775808≤n) (hn':n≤9223372036854775807) (w:World):Calls Tryz.prog 93 #[.agg #[.int .i64 t, .int .i64 n]] w fun e w'=>∃A c,e= .returned (.slice A 12 c)∧12≤c∧w'.ownsRow w.heap.size 5 1 (.slice A 12 c) 12 (bys (encP t n))∧Gr w w':=by
 obtain ⟨i0,hi0,hy0,hy1,hy2⟩:=info_parts info_u8R
 obtain ⟨u,hu⟩:∃u,u=u64 n:=⟨_,rfl⟩
 have hul:=u64_lt n
 rw[←hu] at hul
 have hcv:IntKind.u64.wrap n=(u:Int):=by rw[hu,IntKind.wrap_u64];unfold u64;omega
 obtain ⟨p,hp⟩:∃p,p=at4 t:=⟨_,rfl⟩
 have hmm:max 0 (min t 4294967295)=(p:Int):=by rw[hp];unfold at4;omega
 have hpl:p≤4294967295:=by rw[hp];unfold at4;omega
 obtain ⟨a,ha⟩:∃a,a=u/4294967296:=⟨_,rfl⟩
 obtain ⟨b,hb⟩:∃b,b=u%4294967296:=⟨_,rfl⟩
 have hal:a≤4294967295:=by omega
 have hbl:b≤4294967295:=by omega
 have hsh:(u:Int)/4294967296=(a:Int):=by omega
 have hca:IntKind.i64.wrap (a:Int)=(a:Int):=IntWalk.i64_in _ (by omega)
 have hcb:IntKind.i64.wrap (b:Int)=(b:Int):=IntWalk.i64_in _ (by omega)
 have hand:bits .and .u64 (u:Int) 4294967295=(b:Int):=by rw[and_low u hul,hb]
 have HE:Hid (encP t n=beB p 4++(beB a 4++beB b 4)):=Lib.hid (by unfold encP;rw[←hu,←hp,beB_eight u,←ha,←hb])
 have hbi:(b:Int)≤4294967295:=by omega
 have hai:(a:Int)≤4294967295:=by omega
 have hpi:(p:Int)≤4294967295:=by omega
 clear hu ha hb hp hul
 go_enter Tryz.func93,Tryz.ntmps93
 go_upto_region 1 with (fail)
 have HG:Hid (Gr w (w.alloc (.cells #[.int .i64 t, .int .i64 n] 54))):=Lib.hid (Gr.alloc (Gr.refl w) _)
 obtain ⟨V,hV⟩:∃V,V=w.alloc (.cells #[.int .i64 t, .int .i64 n] 54):=⟨_,rfl⟩
 have c0:V.cell? ⟨w.heap.size,0,none⟩=some (.int .i64 t):=by rw[hV];go_simp
 have c1:V.cell? ⟨w.heap.size,1,none⟩=some (.int .i64 n):=by rw[hV];go_simp
 have hz:w.heap.size<V.heap.size:=by rw[hV];simp
 rw[←hV] at HG ⊢
 clear hV
 go_upto_region 3 with (go_at_call 73;refine (xfour_any p (by omega) _).mono ?_;rintro e w2 ⟨rfl,hw2⟩)
 have own2:=own_four w.heap.size V (beB p 4) HG.out.size (beB_len _ _)
 obtain ⟨V2,hV2⟩:∃V2,V2=V.alloc (.cells (bys (beB p 4)).toArray 5):=⟨_,rfl⟩
 have HG2:Hid (Gr w V2):=Lib.hid (by rw[hV2];exact HG.out.alloc _)
 have hzz:w.heap.size<V2.heap.size:=by have h:=HG.out.size;rw[hV2];simp;omega
 rw[←hV2] at own2 ⊢
 clear hV2 c0 c1 hz
 go_upto_region 4 with (first|(go_at_call 73;refine (xfour_any a (by omega) _).mono ?_;rintro e w3 ⟨rfl,hw3⟩)|(at_builtin;have own3:=own_grU own2 (Gr.alloc (Gr.refl V2) (.cells (bys (beB a 4)).toArray 5));have hrx:Rd (V2.alloc (.cells (bys (beB a 4)).toArray 5)) 1 (some ⟨V2.heap.size,0,none⟩) 4 (bys (beB a 4)):=Rd.newU (W:=V2) (n:=4) (size:=1) rfl 5 (bys (beB a 4)) rfl;refine wpList_append_rd rfl (.tmp 13) (.tmp 17) 49 rfl w.heap.size 5 i0 _ 1 1 Tryz.underlying49 hi0 hy0 hy1 hy2 rfl (by decide) _ 4 _ rfl own3 (some ⟨V2.heap.size,0,none⟩) 4 _ (bys (beB a 4)) rfl hrx (bys_one _) (by decide) (by omega) (by first|(simp;done)|(simp;omega)) ?_;intro v4 w4 own4 hgr4 hob4;have HG4:Hid (Gr w w4):=Lib.hid ((HG2.out.alloc _).grown hgr4 (fun k e=>(own3.lt k e).1));clear own3 hrx hgr4 hob4 own2))
 obtain ⟨A4,e4,hv4⟩:=own_form own4
 subst hv4
 go_wp2_with (first|(go_at_call 73;refine (xfour_any b (by omega) _).mono ?_;rintro e w5 ⟨rfl,hw5⟩)|(at_builtin;have own5:=own_grU own4 (Gr.alloc (Gr.refl w4) (.cells (bys (beB b 4)).toArray 5));have hrx:Rd (w4.alloc (.cells (bys (beB b 4)).toArray 5)) 1 (some ⟨w4.heap.size,0,none⟩) 4 (bys (beB b 4)):=Rd.newU (W:=w4) (n:=4) (size:=1) rfl 5 (bys (beB b 4)) rfl;have hz4:=HG4.out.size;refine wpList_append_rd rfl (.tmp 19) (.tmp 23) 49 rfl w.heap.size 5 i0 _ 1 1 Tryz.underlying49 hi0 hy0 hy1 hy2 rfl (by decide) _ 8 _ rfl own5 (some ⟨w4.heap.size,0,none⟩) 4 _ (bys (beB b 4)) rfl hrx (bys_one _) (by decide) (by omega) (by first|(simp;done)|(simp;omega)) ?_;intro v6 w6 own6 hgr6 hob6;have HG6:Hid (Gr w w6):=Lib.hid ((HG4.out.alloc _).grown hgr6 (fun k e=>(own5.lt k e).1));have H6:=Lib.hid own6;have hvo6:=own_form own6;clear own5 hrx hgr6 hob6 own4 own6 hz4))
 obtain ⟨A6,e6,hv6⟩:=hvo6
 subst hv6
 go_ret
 have own6:=H6.out
 rw[←bys_append,←bys_append,List.append_assoc,←HE.out] at own6
 exact ⟨A6,e6,rfl,own_capU own6,own6,HG6.out⟩

theorem xdec_any (A:Option Addr) (c:Nat) (l:List UInt8) (hl:l.length=12) (hc:12≤c) (w:World) (h:Rb w A l):Calls Tryz.prog 60 #[.slice A l.length c] w (RetPt true (decT l) (decN l) w):=by
 obtain ⟨ad,rfl,hab,hac⟩:=h.2 (by omega)
 have hf0:=fun W (g:Gr w W)=>xfrom_any (some ad) c l (by omega) (by omega) W (h.gr g)
 have h4:Rb w (some (ad.add 4)) (l.drop 4):=⟨by rw[bys_length],fun _=>⟨_,rfl,by rw[add_blk];exact hab,fun j u hu=>by rw[add_two];exact hac (4+j) u (by rw[←hu];simp[bys])⟩⟩
 have h8:Rb w (some (ad.add 8)) (l.drop 8):=⟨by rw[bys_length],fun _=>⟨_,rfl,by rw[add_blk];exact hab,fun j u hu=>by rw[add_two];exact hac (8+j) u (by rw[←hu];simp[bys])⟩⟩
 have e4:(l.drop 4).length=8:=by rw[List.length_drop];omega
 have e8:(l.drop 8).length=4:=by rw[List.length_drop];omega
 have hf4:=fun W (g:Gr w W)=>xfrom_any (some (ad.add 4)) (c-4) (l.drop 4) (by omega) (by omega) W (h4.gr g)
 have hf8:=fun W (g:Gr w W)=>xfrom_any (some (ad.add 8)) (c-8) (l.drop 8) (by omega) (by omega) W (h8.gr g)
 rw[e4] at hf4
 rw[e8] at hf8
 rw[add_at] at hf4 hf8
 obtain ⟨t,ht⟩:∃t,t=ofB (l.take 4):=⟨_,rfl⟩
 obtain ⟨a,ha⟩:∃a,a=ofB ((l.drop 4).take 4):=⟨_,rfl⟩
 obtain ⟨b,hb⟩:∃b,b=ofB ((l.drop 8).take 4):=⟨_,rfl⟩
 have hal:a<4294967296:=by rw[ha];exact ofB_le (l:=(l.drop 4).take 4) (k:=4) (by rw[List.length_take];omega)
 have hbl:b<4294967296:=by rw[hb];exact ofB_le (l:=(l.drop 8).take 4) (k:=4) (by rw[List.length_take];omega)
 have hT:Hid (decT l=(t:Int)):=Lib.hid (by unfold decT;rw[ht])
 have hsp:ofB (l.drop 4)=a*4294967296+b:=by
  rw[ha,hb,←List.take_append_drop 4 (l.drop 4),List.drop_drop]
  have q:∀(x y:List UInt8),ofB (x++y)=ofB x*256^y.length+ofB y:=fun x y=>by rw[ofB,List.foldl_append,foldl_ofB];rfl
  rw[q,show 4+4=8 from rfl,e8,List.take_left' (by rw[List.length_take,e4];rfl),List.take_of_length_le (l:=l.drop 8) (by omega)]
 have hN:Hid (decN l=i64 (a*4294967296+b)):=Lib.hid (by unfold decN;rw[hsp])
 rw[←ht] at hf0
 rw[←ha] at hf4
 rw[←hb] at hf8
 have HF0:=Lib.hid hf0
 have HF4:=Lib.hid hf4
 have HF8:=Lib.hid hf8
 have w1:IntKind.u64.wrap (a:Int)=(a:Int):=u64_in (by omega) (by omega)
 have w2:IntKind.u64.wrap (b:Int)=(b:Int):=u64_in (by omega) (by omega)
 have w3:IntKind.u64.wrap ((a:Int)*4294967296)=(a:Int)*4294967296:=u64_in (by omega) (by omega)
 have w4:bits .or .u64 ((a:Int)*4294967296) (b:Int)=((a*4294967296+b:Nat):Int):=by
  have:=bits_or_u64_nat (a*4294967296) b (by omega) (by omega)
  rw[mul_or b a 32 4294967296 (by decide) hbl] at this
  simpa using this
 obtain ⟨z,hz⟩:∃z,z=a*4294967296+b:=⟨_,rfl⟩
 rw[←hz] at w4 hN
 have hw5:IntKind.i64.wrap (z:Int)=i64 z:=by unfold i64;rw[IntKind.wrap_i64];split<;>omega
 obtain ⟨y,hy⟩:∃y,y=i64 z:=⟨_,rfl⟩
 rw[←hy] at hw5 hN
 rw[hT.out,hN.out,hl]
 rw[hl] at HF0
 have hci:(12:Int)≤(c:Int):=by omega
 have hc4:(4:Int)≤(c:Int):=by omega
 have hc8:(8:Int)≤(c:Int):=by omega
 have hn4:¬c=4:=by omega
 have hn8:¬c=8:=by omega
 have hn4b:¬c≤4:=by omega
 have hn8b:¬c≤8:=by omega
 have HV:Hid (Gr w (w.alloc (.cells #[.int .i64 0, .int .i64 0] 54))):=Lib.hid (Gr.alloc (Gr.refl w) _)
 clear h hac h4 h8 e4 e8 hf0 hf4 hf8 ht ha hb hsp hz hy hT hN hal hbl
 go_enter Tryz.func60,Tryz.ntmps60
 go_upto_region 3 with (fail)
 obtain ⟨V,hV⟩:∃V,V=w.alloc (.cells #[.int .i64 0, .int .i64 0] 54):=⟨_,rfl⟩
 have hz0:w.heap.size<V.heap.size:=by rw[hV];simp
 have c0:V.cell? ⟨w.heap.size,0,none⟩=some (.int .i64 0):=by rw[hV];go_simp
 have c1:V.cell? ⟨w.heap.size,1,none⟩=some (.int .i64 0):=by rw[hV];go_simp
 have f0:V.frozen? ⟨w.heap.size,0,none⟩=false:=by rw[hV];go_simp
 have f1:V.frozen? ⟨w.heap.size,1,none⟩=false:=by rw[hV];go_simp
 rw[←hV] at HV ⊢
 clear hV
 refine region_R (by kernel_rfl) (by kernel_rfl) ?_
 iterate 2 (refine rv ?_;simp only[Pu])
 refine r_call (v:= .int .i64 a) (f:=?qf3) (args:=?qa3) (by kernel_rfl) (fun W hW=>?qh3) (fun W hW=>?qc3) ?qr3
 case qh3=>go_light;go_simp;constructor<;>rfl
 case qc3=>exact (HF4.out W (HV.out.trans hW)).mono (fun e w' h=>⟨h.1,Gr.trans hW h.2⟩)
 simp only[Pu]
 iterate 4 (refine rv ?_;simp only[Pu])
 refine r_call (v:= .int .i64 b) (f:=?qf8) (args:=?qa8) (by kernel_rfl) (fun W hW=>?qh8) (fun W hW=>?qc8) ?qr8
 case qh8=>go_light;go_simp;constructor<;>rfl
 case qc8=>exact (HF8.out W (HV.out.trans hW)).mono (fun e w' h=>⟨h.1,Gr.trans hW h.2⟩)
 simp only[Pu]
 iterate 3 (refine rv ?_;simp only[Pu])
 refine r_nil ?_
 intro w8 hw8
 have k0:=(Below.cell hw8 (p:=⟨w.heap.size,0,none⟩) hz0).trans c0
 have k1:=(Below.cell hw8 (p:=⟨w.heap.size,1,none⟩) hz0).trans c1
 have l0:=(Below.frozen hw8 (p:=⟨w.heap.size,0,none⟩) hz0).trans f0
 have l1:=(Below.frozen hw8 (p:=⟨w.heap.size,1,none⟩) hz0).trans f1
 have hz8:=Nat.lt_of_lt_of_le hz0 hw8.size
 have HG8:=Lib.hid (HV.out.trans hw8)
 clear hw8 c0 c1 f0 f1 hz0
 go_wp2_with (go_at_call 82;refine (HF0.out _ HG8.out).mono ?_;rintro e w9 ⟨rfl,g9⟩;have m0:=(Below.cell g9 (p:=⟨w.heap.size,0,none⟩) hz8).trans k0;have m1:=(Below.cell g9 (p:=⟨w.heap.size,1,none⟩) hz8).trans k1;have n0:=(Below.frozen g9 (p:=⟨w.heap.size,0,none⟩) hz8).trans l0;have n1:=(Below.frozen g9 (p:=⟨w.heap.size,1,none⟩) hz8).trans l1;have hz9:=Nat.lt_of_lt_of_le hz8 g9.size;have HG9:=Lib.hid (HG8.out.trans g9);clear g9)
 refine bodyPost_ret (v:= .tuple #[.agg #[.int .i64 (t:Nat), .int .i64 y], .bool true]) (by simp[results,Tryz.results60,go_sem, *]) rfl ?_
 refine ⟨rfl,?_⟩
 repeat (first|exact HG9.out|refine Gr.setCell ?_ (by show w.heap.size≤w.heap.size;omega) _)
end Go.Proofs.YtoncapkmaeghfaaGreat
