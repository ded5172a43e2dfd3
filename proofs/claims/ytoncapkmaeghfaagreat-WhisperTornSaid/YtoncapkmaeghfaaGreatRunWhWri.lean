import Derived.Test.YtoncapkmaeghfaaGreatRunVfDoes
import Derived.Test.YtoncapkmaeghfaaGreatRunFxBase
import Derived.StillTail
import Derived.Test.YtoncapkmaeghfaaGreatRunWhDecH
import Derived.Test.YtoncapkmaeghfaaGreatRunVfFs
set_option linter.all false
set_option maxRecDepth 1000000
set_option maxHeartbeats 12800000
namespace Go.Proofs.YtoncapkmaeghfaaGreat
open Go.RowKit
def Rbf (B0:Nat) (w:World) (A:Option Addr) (l:List UInt8):Prop:=Rb w A l∧∀ad,A=some ad→B0≤ad.block
theorem Rbf.gr {B0:Nat} {w w':World} {A:Option Addr} {l:List UInt8} (h:Rbf B0 w A l) (g:Gr w w'):Rbf B0 w' A l:=⟨h.1.gr g,h.2⟩
def RetWr (t n:Int) (w:World) (e:Ending) (w':World):Prop:=
 ∃(B:Nat) (A0 A1 A2:Option Addr) (c1 c2:Nat),e= .returned (.slice (some ⟨B,0,none⟩) 3 3)∧((w'.cell? ⟨B,0,none⟩=some (.slice A0 4 4)∧w'.cell? ⟨B,1,none⟩=some (.slice A1 8 c1)∧w'.cell? ⟨B,2,none⟩=some (.slice A2 4 c2)∧B<w'.heap.size)∧w.heap.size≤B)∧
  Rbf w.heap.size w' A0 [0,0,0,0]∧Rbf w.heap.size w' A1 (beB (u64 n) 8)∧Rbf w.heap.size w' A2 (beB (at4 t) 4)∧Gr w w'
theorem RetWr.of {t n:Int} {w w':World} {bs:List UInt8} {B V:Nat} {A0 A1 A2:Option Addr} {c1 c2:Nat} (hV:w.heap.size≤V) (h:bs.take 4=beB (at4 t) 4∧bs.drop 4=beB (u64 n) 8) (hc:(w'.cell? ⟨B,0,none⟩=some (.slice A0 4 4)∧w'.cell? ⟨B,1,none⟩=some (.slice A1 8 c1)∧w'.cell? ⟨B,2,none⟩=some (.slice A2 4 c2)∧B<w'.heap.size)∧V≤B)
  (h0:Rbf V w' A0 [0,0,0,0]) (h1:Rbf V w' A1 (bs.drop 4)) (h2:Rbf V w' A2 (bs.take 4)) (g:Gr w w'):RetWr t n w (.returned (.slice (some ⟨B,0,none⟩) 3 3)) w':=by
 rw[h.1] at h2
 rw[h.2] at h1
 exact ⟨B,A0,A1,A2,c1,c2,rfl,⟨hc.1,Nat.le_trans hV hc.2⟩,⟨h0.1,fun ad e=>Nat.le_trans hV (h0.2 ad e)⟩,⟨h1.1,fun ad e=>Nat.le_trans hV (h1.2 ad e)⟩,⟨h2.1,fun ad e=>Nat.le_trans hV (h2.2 ad e)⟩,g⟩
theorem three_new {w W:World} {x y z:Value} {T:TypeId} (h:W=w.alloc (.cells #[x,y,z] T)):W.cell? ⟨w.heap.size,0,none⟩=some x∧W.cell? ⟨w.heap.size,1,none⟩=some y∧W.cell? ⟨w.heap.size,2,none⟩=some z∧w.heap.size<W.heap.size:=by
 subst h
 refine ⟨?_,?_,?_,by simp⟩<;>go_simp
theorem Rb.drop4 {w:World} {ad:Addr} {l:List UInt8} (hl:l.length=12) (h:Rb w (some ad) l):Rd w 1 (some (ad.add 4)) 8 (bys (l.drop 4)):=by
 refine ⟨by rw[bys_length,List.length_drop];omega,fun _=>⟨ad.add 4,rfl,?_,fun j u hu=>?_⟩⟩
 ·
  obtain ⟨ad',e,hb, -⟩:=h.2 (by omega)
  injection e with e
  subst e
  rw[add_blk];exact hb
 ·
  obtain ⟨ad',e, -,hc⟩:=h.2 (by omega)
  injection e with e
  subst e
  rw[add_two]
  refine hc _ _ ?_
  unfold bys at hu ⊢
  rw[←hu]
  simp[List.getElem?_drop]
theorem Rb.take4 {w:World} {ad:Addr} {l:List UInt8} (hl:l.length=12) (h:Rb w (some ad) l):Rd w 1 (some ad) 4 (bys (l.take 4)):=by
 refine ⟨by rw[bys_length,List.length_take];omega,fun _=>?_⟩
 obtain ⟨ad',e,hb,hc⟩:=h.2 (by omega)
 injection e with e
 subst e
 refine ⟨ad,rfl,hb,fun j u hu=>hc _ _ ?_⟩
 unfold bys at hu ⊢
 rw[List.getElem?_map,List.getElem?_take] at hu
 split at hu
 ·
  rw[List.getElem?_map];exact hu
 ·
  cases hu
theorem writes_any (t n:Int) (w:World):Calls Tryz.prog 105 #[.agg #[.int .i64 t, .int .i64 n]] w (RetWr t n w):=by
 obtain ⟨i0,hi0,hz0,hz1,hz2⟩:=info_parts info_u8
 have HE:=Lib.hid (fun W=>encode_any t n W)
 obtain ⟨bs,hbs⟩:∃bs,bs=encP t n:=⟨_,rfl⟩
 have hl:bs.length=12:=by rw[hbs];exact encP_len t n
 rw[←hbs] at HE
 have HD:Hid (bs.take 4=beB (at4 t) 4∧bs.drop 4=beB (u64 n) 8):=Lib.hid (by
  rw[hbs]
  unfold encP
  exact ⟨List.take_left' (beB_len _ _),List.drop_left' (beB_len _ _)⟩)
 obtain ⟨arr,harr,hms⟩:∃arr:Array Value,(∀W:World,Rb (W.alloc (.cells arr 5)) (some ⟨W.heap.size,0,none⟩) [0,0,0,0])∧∀W,(Instr.makeSlice 49 (.int .i64 4) (.int .i64 4)).run Tryz.prog W= .ok (.slice (some ⟨W.heap.size,0,none⟩) 4 4) (W.alloc (.cells arr 5)):=by
  refine ⟨madeCells (Value.int .u8 0).cells 4,fun W=>?_,fun W=>?_⟩
  ·
   rw[show madeCells (Value.int .u8 0).cells 4=(bys [0,0,0,0]).toArray from by kernel_rfl]
   exact Rd.newU (W:=W) (n:=4) (size:=1) rfl 5 (bys [0,0,0,0]) rfl
  ·
   have:=run_makeSlice (P:=Tryz.prog) (w:=W) 49 5 i0 (.int .u8 0) Tryz.underlying49 hi0 hz0 .i64 .i64 4 4 (by omega) (Int.le_refl _) (by rw[hz1];simp) (by rw[hz2];omega) (by omega)
   rw[hz1,Nat.mul_one] at this
   exact this
 have Harr:=Lib.hid harr
 clear harr hbs
 go_enter Tryz.func105,Tryz.ntmps105
 go_upto_region 2 with (go_at_call 112;refine (HE.out _).mono ?_;rintro e w1 ⟨A,cp,rfl,hcp,hR,g1, -⟩)
 rw[hl] at hcp
 obtain ⟨ad,rfl,hadb, -⟩:=hR.2 (by omega)
 have hcpi:(12:Int)≤(cp:Int):=by omega
 have hc4:(4:Int)≤(cp:Int):=by omega
 have hne4:¬cp=4:=by omega
 refine wp_region_Z 8 (fun W=>Rb W (some ad) bs) (by kernel_rfl) ?_
 obtain ⟨V,hV⟩:∃V,V=w1.drew:=⟨_,rfl⟩
 have hS0:Rb V (some ad) bs:=by rw[hV];exact hR.gr (Gr.drew (Gr.refl w1))
 have GV:Hid (Gr w V):=Lib.hid (by rw[hV];exact ((Gr.alloc (Gr.refl w) _).trans g1).drew)
 have gr0:Gr V V:=Gr.refl V
 rw[←hV]
 clear hV g1 hR hadb
 refine zu 1 rfl hS0 (fun W hS=>by go_simp;rfl) ?_
 refine zu 2 rfl hS0 (fun W hS=>by go_simp;rfl) ?_
 refine zu 4 rfl hS0 (fun W hS=>by go_simp;rfl) ?_
 refine zu 5 rfl hS0 (fun W hS=>by go_simp;rfl) ?_
 refine wpAnyZ_ready (rs:=[0,3]) (by kernel_rfl) (by simp) ?_
 refine AllReadyZ.cons (i:=0) rfl (by kernel_rfl) ?zx160 (AllReadyZ.cons (i:=3) rfl (by kernel_rfl) ?zx161 AllReadyZ.nil)
 ·
  intro K hK
  simp only[List.getElem_toArray,List.getElem_cons_succ,List.getElem_cons_zero]
  go_simp
  obtain ⟨w1,hw1⟩:∃w1,w1=V.alloc (.cells arr 5):=⟨_,rfl⟩
  have k3:Gr V w1:=by rw[hw1];exact Gr.alloc (Gr.refl _) _
  have r5:Rbf V.heap.size w1 (some ⟨V.heap.size,0,none⟩) [0,0,0,0]:=⟨by rw[hw1];exact Harr.out _,fun ad e=>by injection e with e;subst e;exact gr0.size⟩
  rw[←hw1]
  clear hw1
  have g2:=Gr.trans gr0 k3
  have s4:=Rb.gr hS0 k3
  refine hK.out _ _ (fun hnz=>?zs6) (fun _=>?zr7)
  case zs6=>exact s4
  clear hK K
  try (simp only[Pu,List.getElem_toArray,List.getElem_cons_succ,List.getElem_cons_zero])
  refine wpAnyZ_ready (rs:=[3]) (by kernel_rfl) (by simp) ?_
  refine AllReadyZ.cons (i:=3) rfl (by kernel_rfl) ?zx57 AllReadyZ.nil
  intro K hK
  simp only[List.getElem_toArray,List.getElem_cons_succ,List.getElem_cons_zero]
  refine wp_append_rd0 (.const (.slice none 0 0)) (.tmp 8) 49 rfl w1.heap.size 5 i0 _ 1 1 Tryz.underlying49 hi0 hz0 hz1 hz2 rfl (by decide) _ 0 [] rfl (World.ownsRow_nil _ _ _ _) (some (ad.add 4)) 8 (cp-4) (bys (bs.drop 4)) rfl (Rb.drop4 hl s4) (bys_one _) (by unfold maxLen;omega) (by omega) (Nat.le_refl _) ?_
  intro v16 w8 o17 k100 b18
  have k10:Gr w1 w8:=Gr.grown (Gr.refl _) k100 (fun k e=>by cases e)
  rw[Nat.zero_add,List.nil_append] at o17
  obtain ⟨A14,c15,hv⟩:=own_form o17
  subst hv
  have r13:Rbf V.heap.size w8 A14 (bs.drop 4):=⟨Rb.own o17,fun ad e=>Nat.le_trans g2.size (o17.lt ad.block (by rw[own_blkA,e];rfl)).1⟩
  have g9:=Gr.trans g2 k10
  have s11:=Rb.gr s4 k10
  clear k100 b18 o17
  have r12:=r5.gr k10
  refine hK.out _ _ (fun hnz=>?zs19) (fun _=>?zr20)
  case zs19=>exact s11
  clear hK K
  try (simp only[Pu,List.getElem_toArray,List.getElem_cons_succ,List.getElem_cons_zero])
  refine wpAnyZ_ready (rs:=[6]) (by kernel_rfl) (by simp) ?_
  refine AllReadyZ.cons (i:=6) rfl (by kernel_rfl) ?zx56 AllReadyZ.nil
  intro K hK
  simp only[List.getElem_toArray,List.getElem_cons_succ,List.getElem_cons_zero]
  refine wp_append_rd0 (.const (.slice none 0 0)) (.tmp 11) 49 rfl w8.heap.size 5 i0 _ 1 1 Tryz.underlying49 hi0 hz0 hz1 hz2 rfl (by decide) _ 0 [] rfl (World.ownsRow_nil _ _ _ _) (some ad) 4 cp (bys (bs.take 4)) rfl (Rb.take4 hl s11) (bys_one _) (by unfold maxLen;omega) (by omega) (Nat.le_refl _) ?_
  intro v30 w21 o31 k230 b32
  have k23:Gr w8 w21:=Gr.grown (Gr.refl _) k230 (fun k e=>by cases e)
  rw[Nat.zero_add,List.nil_append] at o31
  obtain ⟨A28,c29,hv⟩:=own_form o31
  subst hv
  have r27:Rbf V.heap.size w21 A28 (bs.take 4):=⟨Rb.own o31,fun ad e=>Nat.le_trans g9.size (o31.lt ad.block (by rw[own_blkA,e];rfl)).1⟩
  have g22:=Gr.trans g9 k23
  have s24:=Rb.gr s11 k23
  clear k230 b32 o31
  have r25:=r12.gr k23
  have r26:=r13.gr k23
  refine hK.out _ _ (fun hnz=>?zs33) (fun _=>?zr34)
  case zs33=>exact s24
  clear hK K
  try (simp only[Pu,List.getElem_toArray,List.getElem_cons_succ,List.getElem_cons_zero])
  refine wpAnyZ_ready (rs:=[7]) (by kernel_rfl) (by simp) ?_
  refine AllReadyZ.cons (i:=7) rfl (by kernel_rfl) ?zx55 AllReadyZ.nil
  intro K hK
  simp only[List.getElem_toArray,List.getElem_cons_succ,List.getElem_cons_zero]
  go_simp
  obtain ⟨w35,hw35⟩:∃w35,w35=w21.alloc (.cells #[(.slice (some ⟨V.heap.size,0,none⟩) 4 4),(.slice A14 8 c15),(.slice A28 4 c29)] 49):=⟨_,rfl⟩
  have k37:Gr w21 w35:=by rw[hw35];exact Gr.alloc (Gr.refl _) _
  have q42:=And.intro (three_new (w:=w21) hw35) g22.size
  rw[←hw35]
  clear hw35
  have g36:=Gr.trans g22 k37
  have s38:=Rb.gr s24 k37
  have r39:=r25.gr k37
  have r40:=r26.gr k37
  have r41:=r27.gr k37
  refine hK.out _ _ (fun hnz=>?zs43) (fun _=>?zr44)
  case zs43=>exact s38
  clear hK K
  try (simp only[Pu,List.getElem_toArray,List.getElem_cons_succ,List.getElem_cons_zero])
  refine wpAnyZ_ready (rs:=[8]) (by kernel_rfl) (by simp) ?_
  refine AllReadyZ.cons (i:=8) rfl (by kernel_rfl) ?zx54 AllReadyZ.nil
  intro K hK
  simp only[List.getElem_toArray,List.getElem_cons_succ,List.getElem_cons_zero]
  go_simp
  refine hK.out _ _ (fun hnz=>?zs52) (fun _=>?zr53)
  case zs52=>exact absurd rfl hnz
  clear hK K
  try (simp only[Pu,List.getElem_toArray,List.getElem_cons_succ,List.getElem_cons_zero])
  refine wpAnyZ_done (by kernel_rfl) ?_ _
  go_wp2
  go_ret
  exact RetWr.of GV.out.size HD.out q42 r39 r40 r41 (Gr.trans GV.out g36)
 ·
  intro K hK
  simp only[List.getElem_toArray,List.getElem_cons_succ,List.getElem_cons_zero]
  refine wp_append_rd0 (.const (.slice none 0 0)) (.tmp 8) 49 rfl V.heap.size 5 i0 _ 1 1 Tryz.underlying49 hi0 hz0 hz1 hz2 rfl (by decide) _ 0 [] rfl (World.ownsRow_nil _ _ _ _) (some (ad.add 4)) 8 (cp-4) (bys (bs.drop 4)) rfl (Rb.drop4 hl hS0) (bys_one _) (by unfold maxLen;omega) (by omega) (Nat.le_refl _) ?_
  intro v65 w58 o66 k600 b67
  have k60:Gr V w58:=Gr.grown (Gr.refl _) k600 (fun k e=>by cases e)
  rw[Nat.zero_add,List.nil_append] at o66
  obtain ⟨A63,c64,hv⟩:=own_form o66
  subst hv
  have r62:Rbf V.heap.size w58 A63 (bs.drop 4):=⟨Rb.own o66,fun ad e=>Nat.le_trans gr0.size (o66.lt ad.block (by rw[own_blkA,e];rfl)).1⟩
  have g59:=Gr.trans gr0 k60
  have s61:=Rb.gr hS0 k60
  clear k600 b67 o66
  refine hK.out _ _ (fun hnz=>?zs68) (fun _=>?zr69)
  case zs68=>exact s61
  clear hK K
  try (simp only[Pu,List.getElem_toArray,List.getElem_cons_succ,List.getElem_cons_zero])
  refine wpAnyZ_ready (rs:=[0,6]) (by kernel_rfl) (by simp) ?_
  refine AllReadyZ.cons (i:=0) rfl (by kernel_rfl) ?zx158 (AllReadyZ.cons (i:=6) rfl (by kernel_rfl) ?zx159 AllReadyZ.nil)
  ·
   intro K hK
   simp only[List.getElem_toArray,List.getElem_cons_succ,List.getElem_cons_zero]
   go_simp
   obtain ⟨w70,hw70⟩:∃w70,w70=w58.alloc (.cells arr 5):=⟨_,rfl⟩
   have k72:Gr w58 w70:=by rw[hw70];exact Gr.alloc (Gr.refl _) _
   have r75:Rbf V.heap.size w70 (some ⟨w58.heap.size,0,none⟩) [0,0,0,0]:=⟨by rw[hw70];exact Harr.out _,fun ad e=>by injection e with e;subst e;exact g59.size⟩
   rw[←hw70]
   clear hw70
   have g71:=Gr.trans g59 k72
   have s73:=Rb.gr s61 k72
   have r74:=r62.gr k72
   refine hK.out _ _ (fun hnz=>?zs76) (fun _=>?zr77)
   case zs76=>exact s73
   clear hK K
   try (simp only[Pu,List.getElem_toArray,List.getElem_cons_succ,List.getElem_cons_zero])
   refine wpAnyZ_ready (rs:=[6]) (by kernel_rfl) (by simp) ?_
   refine AllReadyZ.cons (i:=6) rfl (by kernel_rfl) ?zx113 AllReadyZ.nil
   intro K hK
   simp only[List.getElem_toArray,List.getElem_cons_succ,List.getElem_cons_zero]
   refine wp_append_rd0 (.const (.slice none 0 0)) (.tmp 11) 49 rfl w70.heap.size 5 i0 _ 1 1 Tryz.underlying49 hi0 hz0 hz1 hz2 rfl (by decide) _ 0 [] rfl (World.ownsRow_nil _ _ _ _) (some ad) 4 cp (bys (bs.take 4)) rfl (Rb.take4 hl s73) (bys_one _) (by unfold maxLen;omega) (by omega) (Nat.le_refl _) ?_
   intro v87 w78 o88 k800 b89
   have k80:Gr w70 w78:=Gr.grown (Gr.refl _) k800 (fun k e=>by cases e)
   rw[Nat.zero_add,List.nil_append] at o88
   obtain ⟨A85,c86,hv⟩:=own_form o88
   subst hv
   have r84:Rbf V.heap.size w78 A85 (bs.take 4):=⟨Rb.own o88,fun ad e=>Nat.le_trans g71.size (o88.lt ad.block (by rw[own_blkA,e];rfl)).1⟩
   have g79:=Gr.trans g71 k80
   have s81:=Rb.gr s73 k80
   clear k800 b89 o88
   have r82:=r75.gr k80
   have r83:=r74.gr k80
   refine hK.out _ _ (fun hnz=>?zs90) (fun _=>?zr91)
   case zs90=>exact s81
   clear hK K
   try (simp only[Pu,List.getElem_toArray,List.getElem_cons_succ,List.getElem_cons_zero])
   refine wpAnyZ_ready (rs:=[7]) (by kernel_rfl) (by simp) ?_
   refine AllReadyZ.cons (i:=7) rfl (by kernel_rfl) ?zx112 AllReadyZ.nil
   intro K hK
   simp only[List.getElem_toArray,List.getElem_cons_succ,List.getElem_cons_zero]
   go_simp
   obtain ⟨w92,hw92⟩:∃w92,w92=w78.alloc (.cells #[(.slice (some ⟨w58.heap.size,0,none⟩) 4 4),(.slice A63 8 c64),(.slice A85 4 c86)] 49):=⟨_,rfl⟩
   have k94:Gr w78 w92:=by rw[hw92];exact Gr.alloc (Gr.refl _) _
   have q99:=And.intro (three_new (w:=w78) hw92) g79.size
   rw[←hw92]
   clear hw92
   have g93:=Gr.trans g79 k94
   have s95:=Rb.gr s81 k94
   have r96:=r82.gr k94
   have r97:=r83.gr k94
   have r98:=r84.gr k94
   refine hK.out _ _ (fun hnz=>?zs100) (fun _=>?zr101)
   case zs100=>exact s95
   clear hK K
   try (simp only[Pu,List.getElem_toArray,List.getElem_cons_succ,List.getElem_cons_zero])
   refine wpAnyZ_ready (rs:=[8]) (by kernel_rfl) (by simp) ?_
   refine AllReadyZ.cons (i:=8) rfl (by kernel_rfl) ?zx111 AllReadyZ.nil
   intro K hK
   simp only[List.getElem_toArray,List.getElem_cons_succ,List.getElem_cons_zero]
   go_simp
   refine hK.out _ _ (fun hnz=>?zs109) (fun _=>?zr110)
   case zs109=>exact absurd rfl hnz
   clear hK K
   try (simp only[Pu,List.getElem_toArray,List.getElem_cons_succ,List.getElem_cons_zero])
   refine wpAnyZ_done (by kernel_rfl) ?_ _
   go_wp2
   go_ret
   exact RetWr.of GV.out.size HD.out q99 r96 r97 r98 (Gr.trans GV.out g93)
  ·
   intro K hK
   simp only[List.getElem_toArray,List.getElem_cons_succ,List.getElem_cons_zero]
   refine wp_append_rd0 (.const (.slice none 0 0)) (.tmp 11) 49 rfl w58.heap.size 5 i0 _ 1 1 Tryz.underlying49 hi0 hz0 hz1 hz2 rfl (by decide) _ 0 [] rfl (World.ownsRow_nil _ _ _ _) (some ad) 4 cp (bys (bs.take 4)) rfl (Rb.take4 hl s61) (bys_one _) (by unfold maxLen;omega) (by omega) (Nat.le_refl _) ?_
   intro v122 w114 o123 k1160 b124
   have k116:Gr w58 w114:=Gr.grown (Gr.refl _) k1160 (fun k e=>by cases e)
   rw[Nat.zero_add,List.nil_append] at o123
   obtain ⟨A120,c121,hv⟩:=own_form o123
   subst hv
   have r119:Rbf V.heap.size w114 A120 (bs.take 4):=⟨Rb.own o123,fun ad e=>Nat.le_trans g59.size (o123.lt ad.block (by rw[own_blkA,e];rfl)).1⟩
   have g115:=Gr.trans g59 k116
   have s117:=Rb.gr s61 k116
   clear k1160 b124 o123
   have r118:=r62.gr k116
   refine hK.out _ _ (fun hnz=>?zs125) (fun _=>?zr126)
   case zs125=>exact s117
   clear hK K
   try (simp only[Pu,List.getElem_toArray,List.getElem_cons_succ,List.getElem_cons_zero])
   refine wpAnyZ_ready (rs:=[0]) (by kernel_rfl) (by simp) ?_
   refine AllReadyZ.cons (i:=0) rfl (by kernel_rfl) ?zx157 AllReadyZ.nil
   intro K hK
   simp only[List.getElem_toArray,List.getElem_cons_succ,List.getElem_cons_zero]
   go_simp
   obtain ⟨w127,hw127⟩:∃w127,w127=w114.alloc (.cells arr 5):=⟨_,rfl⟩
   have k129:Gr w114 w127:=by rw[hw127];exact Gr.alloc (Gr.refl _) _
   have r133:Rbf V.heap.size w127 (some ⟨w114.heap.size,0,none⟩) [0,0,0,0]:=⟨by rw[hw127];exact Harr.out _,fun ad e=>by injection e with e;subst e;exact g115.size⟩
   rw[←hw127]
   clear hw127
   have g128:=Gr.trans g115 k129
   have s130:=Rb.gr s117 k129
   have r131:=r118.gr k129
   have r132:=r119.gr k129
   refine hK.out _ _ (fun hnz=>?zs134) (fun _=>?zr135)
   case zs134=>exact s130
   clear hK K
   try (simp only[Pu,List.getElem_toArray,List.getElem_cons_succ,List.getElem_cons_zero])
   refine wpAnyZ_ready (rs:=[7]) (by kernel_rfl) (by simp) ?_
   refine AllReadyZ.cons (i:=7) rfl (by kernel_rfl) ?zx156 AllReadyZ.nil
   intro K hK
   simp only[List.getElem_toArray,List.getElem_cons_succ,List.getElem_cons_zero]
   go_simp
   obtain ⟨w136,hw136⟩:∃w136,w136=w127.alloc (.cells #[(.slice (some ⟨w114.heap.size,0,none⟩) 4 4),(.slice A63 8 c64),(.slice A120 4 c121)] 49):=⟨_,rfl⟩
   have k138:Gr w127 w136:=by rw[hw136];exact Gr.alloc (Gr.refl _) _
   have q143:=And.intro (three_new (w:=w127) hw136) g128.size
   rw[←hw136]
   clear hw136
   have g137:=Gr.trans g128 k138
   have s139:=Rb.gr s130 k138
   have r140:=r133.gr k138
   have r141:=r131.gr k138
   have r142:=r132.gr k138
   refine hK.out _ _ (fun hnz=>?zs144) (fun _=>?zr145)
   case zs144=>exact s139
   clear hK K
   try (simp only[Pu,List.getElem_toArray,List.getElem_cons_succ,List.getElem_cons_zero])
   refine wpAnyZ_ready (rs:=[8]) (by kernel_rfl) (by simp) ?_
   refine AllReadyZ.cons (i:=8) rfl (by kernel_rfl) ?zx155 AllReadyZ.nil
   intro K hK
   simp only[List.getElem_toArray,List.getElem_cons_succ,List.getElem_cons_zero]
   go_simp
   refine hK.out _ _ (fun hnz=>?zs153) (fun _=>?zr154)
   case zs153=>exact absurd rfl hnz
   clear hK K
   try (simp only[Pu,List.getElem_toArray,List.getElem_cons_succ,List.getElem_cons_zero])
   refine wpAnyZ_done (by kernel_rfl) ?_ _
   go_wp2
   go_ret
   exact RetWr.of GV.out.size HD.out q143 r140 r141 r142 (Gr.trans GV.out g137)
open Go
section
variable {P:Program} {ops:Array Oper} {md:Region.Mode} {C:World→Prop}
def headQ (P:Program) (md:Region.Mode) (ops:Array Oper) (C:World→Prop) (n:Nat) (L:Array Bool→Act→Prop):Nat→Array Bool→Act→Prop
 | 0,listed,a=>L listed a
 | f+1,listed,a=>
  Region.ready md ops listed≠[]∧∀i∈Region.ready md ops listed,i<n∧qOp P ops C i (headQ P md ops C n L f (listed.setIfInBounds i true)) a
theorem any_of_headQ {n g:Nat} {L:Array Bool→Act→Prop} {Q':Exit→Act→World→Prop} (hL:∀listed a w,C w→L listed a→wpAny P md ops Q' g listed a w) :
  ∀(f:Nat) (listed:Array Bool) (a:Act) (w:World),C w→headQ P md ops C n L f listed a→wpAny P md ops Q' (f+g) listed a w
 | 0,listed,a,w,hw,h=>by rw[Nat.zero_add];exact hL _ _ _ hw h
 | f+1,listed,a,w,hw,h=>by
  rw[show f+1+g=(f+g)+1 by omega]
  exact ⟨fun h0=>absurd h0 h.1,fun i hi=>wpOp_of_qOp hw (fun a' w' hw' h'=>any_of_headQ hL f _ a' w' hw' h') (h.2 i hi).2⟩
theorem headQ_first {n i:Nat} {oi:Oper} {v:Value} {L:Array Bool→Act→Prop} (hi:ops[i]?=some oi) (hsel:∀(j:Nat) (o:Oper) cs b,ops[j]?=some o→o.op ≠ .select cs b)
  (hs:Region.sinkB md ops n=true) (hc:Region.chainB md ops n=true) (hn:n<ops.size) (hin:i<n)
  (hdone:∀listed a,L listed a→∀j∈Region.ready md ops listed,n≤j) :
  ∀(f:Nat) (listed:Array Bool) (a:Act),HeadInv md ops n listed→
   (∀j oj,ops[j]?=some oj→j≠i→listed.getD j true=false→(∀e∈oj.after,Region.binds md e=true→e.on≠i)→oi.apart ops oj=true)→
   i∈Region.ready md ops listed→YieldsIn P ops C oi v a→
   headQ P md ops C n L f (listed.setIfInBounds i true) (a.put oi.dst v)→headQ P md ops C n L (f+1) listed a:=by
 intro f
 induction f with
 | zero=>
  intro listed a inv _ hr hy H
  have hun:=(mem_ready.1 hr).1
  refine ⟨fun h=>(by rw[h] at hr;cases hr),fun j hj=>?_⟩
  have hjn:j<n:=Nat.lt_of_not_ge fun h=>absurd hj (tail_waits hs hc hn inv _ i rfl hin hun j h)
  refine ⟨hjn,?_⟩
  by_cases hji:j=i
  ·
   subst hji;exact hy.qOp hi H
  ·
   exact absurd (hdone _ _ H j (ready_mono hj hji)) (by omega)
 | succ f ih=>
  intro listed a inv hfree hr hy H
  have hun:=(mem_ready.1 hr).1
  refine ⟨fun h=>(by rw[h] at hr;cases hr),fun j hj=>?_⟩
  have hjn:j<n:=Nat.lt_of_not_ge fun h=>absurd hj (tail_waits hs hc hn inv _ i rfl hin hun j h)
  refine ⟨hjn,?_⟩
  by_cases hji:j=i
  ·
   subst hji;exact hy.qOp hi H
  ·
   have h1:=(H.2 j (ready_mono hj hji)).2
   obtain ⟨hjun,oj,hoj,hall⟩:=mem_ready.1 hj
   have hnot:∀e∈oj.after,Region.binds md e=true→e.on≠i:=fun e he hb heq=>by
    have h2:=hall e he hb
    rw[heq,getD_both hun] at h2
    cases h2
   have h2:=qOp_put hoj (hfree j oj hoj hji hjun hnot) (fun cs b=>hsel i oi cs b hi) (fun cs b=>hsel j oj cs b hoj) hy h1
   refine qOp_mono (fun a' h3=>ih (listed.setIfInBounds j true) a' (inv.set hj hjn) (fun k ok hk hki hk0 hno=>hfree k ok hk hki ?_ hno) (ready_mono hr (Ne.symm hji)) h3.1 ?_) h2
   ·
    by_cases hjk:j=k
    ·
     subst hjk;exact hjun
    ·
     rwa [getD_set_ne true hjk] at hk0
   ·
    rw[Array.setIfInBounds_comm _ _ hji];exact h3.2
theorem headQ_lex {n g:Nat} {Lq:Act→Prop} (hsel:Region.noSelect ops=true) (hs:Region.sinkB md ops n=true) (hc:Region.chainB md ops n=true) (hn:n<ops.size) :
  ∀(l:List Oper) (k:Nat) (listed:Array Bool) (a:Act),(∀j,j<l.length→l[j]?=ops[k+j]?)→k+l.length=n→HeadInv md ops n listed→
  Region.lexHead md ops g l.length k listed=true→wpQuiet P ops C Lq l a→
  headQ P md ops C n (fun listed' a'=>Region.seqB md ops g n listed'=true∧Lq a') l.length listed a
 | [],k,listed,a,_,hk,_,hB,h=>by
  have:k=n:=by simpa using hk
  subst this
  exact ⟨by simpa [Region.lexHead] using hB,h⟩
 | o::l,k,listed,a,hl,hk,inv,hB,h=>by
  have h0:ops[k]?=some o:=by simpa using (hl 0 (by simp)).symm
  simp only[List.length_cons,Region.lexHead,Bool.and_eq_true] at hB
  obtain ⟨⟨hr,hf⟩,hB'⟩:=hB
  have hkn:k<n:=by simp only[List.length_cons] at hk;omega
  have hr':k∈Region.ready md ops listed:=by simpa using hr
  have hst:qOp P ops C k (wpQuiet P ops C Lq l) a:=by unfold qOp;simp only[h0];exact h
  obtain ⟨v,hy,hK⟩:=yieldsIn_of_qOp h0 hst
  refine headQ_first h0 (Region.noSelect_spec hsel) hs hc hn hkn (fun listed' a' hL=>seqB_ready hL.1) l.length listed a inv (Region.free_spec h0 hf) hr' hy
   (headQ_lex hsel hs hc hn l (k+1) _ _ (fun j hj=>?_) (by simp only[List.length_cons] at hk;omega) (inv.set hr' hkn) hB' hK)
  have:=hl (j+1) (by simp;omega)
  simpa [Nat.add_assoc,Nat.add_comm 1 j] using this
theorem region_T {id:Nat} {Q:Exit→Act→World→Prop} {a:Act} {w:World} {l:List Oper} (n:Nat) (hm:P.follows .mixedOrders=true) (hB:Region.lexTailB .any l.toArray n=true)
  (h:wpQuiet P l.toArray (fun W=>Gr w W) (fun a'=>∀w',Gr w w'→wpList P l.toArray Q (l.drop n) a' w') (l.take n) a):(Code.region id l.toArray true).wp P Q a w:=by
 simp only[Region.lexTailB,Bool.and_eq_true,decide_eq_true_eq] at hB
 obtain ⟨⟨⟨⟨hsel,hn⟩,hs⟩,hc⟩,hlex⟩:=hB
 have hn':n<l.length:=by simpa using hn
 have htl:(l.take n).length=n:=by simp;omega
 have hdl:(l.drop n).length=l.toArray.size-n:=by simp
 have inv0:HeadInv .any l.toArray n (Array.replicate l.toArray.size false):=
  ⟨by simp,fun j oj _ hl=>(by rw[getD_replicate_false] at hl;cases hl),fun t _ ht=>getD_in (by simpa using ht) (getD_replicate_false _ _)⟩
 have H:=headQ_lex (md:= .any) (g:=l.toArray.size-n) hsel hs hc hn (l.take n) 0 _ a (fun j hj=>by
  have hj':j<n:=by rw[htl] at hj;exact hj
  simp[hj']) (by simpa using htl) inv0 (by rw[htl];exact hlex) h
 refine wp_region_any hm ?_
 have:=any_of_headQ (Q':=Q) (g:=l.toArray.size-n) (fun listed a' w' hw' hL=>by
  have:=wpAny_of_seq (md:= .any) (Q':=Q) (l.drop n) n listed a' w' (fun j=>by simp[List.getElem?_drop]) (by rw[hdl];exact hL.1) (hL.2 w' hw')
  rwa [hdl] at this) _ _ _ _ (Gr.drew (Gr.refl w)) H
 rw[htl,show n+(l.toArray.size-n)=l.toArray.size by omega] at this
 exact this
end
theorem own_laid {w w':World} {base g n d:Nat} {e t:TypeId} {l l':List UInt8} {rest:List Value} (h:w.ownsRow base e 1 (.slice (some ⟨g,0,none⟩) n d) n (bys l)) (hh:w.heap[g]?=some (.cells (bys l++rest).toArray t (0,0))) (hh':w'.heap[g]?=some (.cells (bys l'++rest).toArray t (0,0))) (hl:l'.length=l.length):w'.ownsRow base e 1 (.slice (some ⟨g,0,none⟩) n d) n (bys l'):=by
 obtain ⟨h1,⟨hv,h0⟩|⟨g',cap,cur,hv,hb,hc,h2,h3,h4,h5⟩⟩:=h
 ·
  cases hv
 ·
  injection hv with hv1 hv2 hv3
  injection hv1 with hv1
  injection hv1 with hv1 _ _
  subst hv1
  subst hv3
  rw[hh] at hc
  injection hc with hc
  injection hc with hc1 hc2 hc3
  subst hc1
  subst hc2
  have hn:n=l.length:=by rw[bys_length] at h1;omega
  refine ⟨by rw[bys_length,hl];omega, .inr ⟨g,d,_,rfl,hb,hh',h2,h3,?_,?_⟩⟩
  ·
   rw[List.size_toArray,List.length_append,bys_length] at h4 ⊢
   omega
  ·
   rw[List.toList_toArray]
   exact List.take_left' (by rw[bys_length,hl];omega)
theorem wpList_copy_put {P:Program} {w:World} {ops:Array Oper} {rest:List Oper} {o:Oper} {a:Act} {Q:Exit→Act→World→Prop} (hgd:o.guard=none) (x s:Operand) (dT sT:TypeId)
  (ho:o.op= .call {callee:= .builtin .copy,args:= #[x,s],argTypes:= #[dT,sT]}) (elem:TypeId) (hu:P.underlying dT=some (.slice elem)) (hsz:(P.info? elem).map (·.size)=some 1)
  (base g off d dCap sCap:Nat) (D L:List UInt8) (ad:Addr) (hd:a.eval x= .slice (some ⟨g,off,none⟩) (D.length-off) dCap) (hs:a.eval s= .slice (some ad) L.length sCap)
  (own:w.ownsRow base elem 1 (.slice (some ⟨g,0,none⟩) D.length d) D.length (bys D)) (hr:Rb w (some ad) L) (h0:0<L.length) (hfit:off+L.length≤D.length)
  (h:∀w',Hid (w'.ownsRow base elem 1 (.slice (some ⟨g,0,none⟩) D.length d) D.length (bys (putB D off L)))→Hid (Kp (fun k=>k=g) w w')→wpList P ops Q rest (a.put o.dst (goInt L.length)) w'):wpList P ops Q (o::rest) a w:=by
 obtain ⟨r,t,hg⟩:=own_open own
 obtain ⟨ad',e,hb,hc⟩:=hr.2 h0
 injection e with e
 subst e
 have hL:(bys L).length=L.length:=by rw[bys_length,Nat.mul_one]
 refine wpList_copy_own hgd x s dT sT ho elem hu hsz g off (D.length-off) dCap ad L.length sCap hd hs _ t hg (bys L) (by rw[hL];exact (Nat.min_eq_left (by omega)).symm) (fun j v hv=>hc j v hv) (by rw[List.size_toArray,List.length_append,hL,bys_length];omega) (bys_one _) ?_
 rw[hL]
 have e2:((bys D++r).toArray.toList.take off++(bys L++(bys D++r).toArray.toList.drop (off+L.length)))=bys (putB D off L)++r:=by
  rw[←splice_bys r hfit]
  unfold splice
  rw[hL]
 rw[e2]
 have hh:=setRow_heap w g _ (bys (putB D off L)++r).toArray t _ hg
 exact h _ (Lib.hid (own_laid own hg hh (putB_len hfit))) (Lib.hid ⟨rfl,rfl,rfl,by simp[World.setRow],fun k _ hk=>setRow_other w g k _ hk⟩)
theorem putB_mid (p a r x:List UInt8) (h:x.length=a.length):putB (p++(a++r)) p.length x=p++(x++r):=by
 unfold putB
 rw[List.take_left' rfl,h,←List.append_assoc p a r,List.drop_left' (by rw[List.length_append])]
theorem putB_two {D:List UInt8} {k:Nat} {a a' b:List UInt8} (h:a'.length=a.length) (hk:k+a.length+b.length≤D.length):putB (putB (putB D k a) (k+a.length) b) k a'=putB D k (a'++b):=by
 obtain ⟨p,x,y,r,hD,hp,hx,hy⟩:∃p x y r:List UInt8,D=p++(x++(y++r))∧p.length=k∧x.length=a.length∧y.length=b.length:=by
  refine ⟨D.take k,(D.drop k).take a.length,((D.drop k).drop a.length).take b.length,((D.drop k).drop a.length).drop b.length,by rw[List.take_append_drop,List.take_append_drop,List.take_append_drop],?_,?_,?_⟩
  ·
   rw[List.length_take];omega
  ·
   rw[List.length_take,List.length_drop];omega
  ·
   rw[List.length_take,List.length_drop,List.length_drop];omega
 subst hp
 subst hD
 rw[putB_mid p x (y++r) a hx.symm]
 have e:p++(a++(y++r))=(p++a)++(y++r):=by rw[List.append_assoc]
 rw[e,show p.length+a.length=(p++a).length by rw[List.length_append],putB_mid (p++a) y r b hy.symm,List.append_assoc,putB_mid p a (b++r) a' h]
 rw[show x++(y++r)=(x++y)++r by rw[List.append_assoc],putB_mid p (x++y) r (a'++b) (by rw[List.length_append,List.length_append,h,hx,hy]),List.append_assoc]
def wrS (D:List UInt8) (k:Nat) (t v:Int):Nat→List UInt8
 | 0=>D
 | 1=>putB D k [0,0,0,0]
 | 2=>putB (putB D k [0,0,0,0]) (k+4) (beB (u64 v) 8)
 | _=>putB (putB (putB D k [0,0,0,0]) (k+4) (beB (u64 v) 8)) k (beB (at4 t) 4)
theorem wrS_len {D:List UInt8} {k:Nat} (t v:Int) (h:k+12≤D.length):∀j,(wrS D k t v j).length=D.length
 | 0=>rfl
 | 1=>putB_len (by simp;omega)
 | 2=>by rw[wrS,putB_len (by rw[putB_len (by simp;omega),beB_len];omega),putB_len (by simp;omega)]
 | j+3=>by
  show (putB (putB (putB D k [0,0,0,0]) (k+4) (beB (u64 v) 8)) k (beB (at4 t) 4)).length=_
  rw[putB_len (by rw[putB_len (by rw[putB_len (by simp;omega),beB_len];omega),putB_len (by simp;omega),beB_len];omega),putB_len (by rw[putB_len (by simp;omega),beB_len];omega),putB_len (by simp;omega)]
theorem wrS_end {D:List UInt8} {k:Nat} (t v:Int) (h:k+12≤D.length):wrS D k t v 3=putB D k (encP t v):=by
 unfold wrS encP
 exact putB_two (a:=[0,0,0,0]) (by rw[beB_len];rfl) (by rw[beB_len];simp;omega)
def Thr (w:World) (B C:Nat) (B0:Nat) (k:Nat) (t v:Int):Prop:=
 ∀j,j<3→∃(fr:Nat) (ad:Addr) (L:List UInt8) (cc:Nat),w.cell? ⟨C,j,none⟩=some (.int .i64 fr)∧w.cell? ⟨B,j,none⟩=some (.slice (some ad) L.length cc)∧Rb w (some ad) L∧B0≤ad.block∧0<L.length∧fr+L.length≤12∧∀D,wrS D k t v (j+1)=putB (wrS D k t v j) (k+fr) L
theorem Rb.some {w:World} {A:Option Addr} {l:List UInt8} (h:Rb w A l) (h0:0<l.length):∃ad,A=some ad:=by
 obtain ⟨ad,e, -⟩:=h.2 h0
 exact ⟨ad,e⟩
theorem Thr.of {w:World} {B C B0 k c1 c2:Nat} {t v:Int} {A0 A1 A2:Option Addr} (y0:w.cell? ⟨B,0,none⟩=some (.slice A0 4 4)) (y1:w.cell? ⟨B,1,none⟩=some (.slice A1 8 c1)) (y2:w.cell? ⟨B,2,none⟩=some (.slice A2 4 c2))
  (z0:w.cell? ⟨C,0,none⟩=some (.int .i64 0)) (z1:w.cell? ⟨C,1,none⟩=some (.int .i64 4)) (z2:w.cell? ⟨C,2,none⟩=some (.int .i64 0)) (r0:Rbf B0 w A0 [0,0,0,0]) (r1:Rbf B0 w A1 (beB (u64 v) 8)) (r2:Rbf B0 w A2 (beB (at4 t) 4)):Thr w B C B0 k t v:=by
 obtain ⟨a0,e0⟩:=r0.1.some (by decide)
 obtain ⟨a1,e1⟩:=r1.1.some (by rw[beB_len];decide)
 obtain ⟨a2,e2⟩:=r2.1.some (by rw[beB_len];decide)
 subst e0 e1 e2
 intro j hj
 match j with
 | 0=>exact ⟨0,a0,[0,0,0,0],4,z0,y0,r0.1,r0.2 _ rfl,by decide,by decide,fun D=>rfl⟩
 | 1=>exact ⟨4,a1,beB (u64 v) 8,c1,z1,by rw[beB_len];exact y1,r1.1,r1.2 _ rfl,by rw[beB_len];decide,by rw[beB_len];decide,fun D=>rfl⟩
 | 2=>exact ⟨0,a2,beB (at4 t) 4,c2,z2,by rw[beB_len];exact y2,r2.1,r2.2 _ rfl,by rw[beB_len];decide,by rw[beB_len];decide,fun D=>rfl⟩
theorem FiM.old {w:World} {X F P M:Nat} {R:Option Nat} {room:Int} {n ag xf b c:Nat} {m:Arcs} {g d:Nat} {D:List UInt8} (h:FiM w X F P M R room n ag xf b c m g d D) {q:Nat} (hq:w.heap.size≤q):¬Tcg P M R g q:=fun e=>by
 have h1:=h.fs.lp
 have h2:=h.fs.lm
 have h3:=h.lg
 rcases e with (e|e|e)|e
 ·
  omega
 ·
  omega
 ·
  obtain ⟨v,xs, -,v2,v3⟩:=h.fs.p0
  have:=(v3.lt q (by rw[v2];exact e)).2
  omega
 ·
  omega
theorem one_part (w:World) (L:List UInt8) (p:Addr) (c:Nat) (hb:Rb w (some p) L):Pts (w.alloc (.cells #[.slice (some p) L.length c] 49)) w.heap.size [L]:=by
 intro k hk
 have hk0:k=0:=by simp at hk;exact hk
 subst hk0
 exact ⟨p,c,by go_simp,hb.gr (Gr.alloc (Gr.refl w) _)⟩
theorem FiM.tch {w:World} {X F P M:Nat} {R:Option Nat} {room:Int} {n ag xf b c:Nat} {m:Arcs} {g d:Nat} {D:List UInt8} (h:FiM w X F P M R room n ag xf b c m g d D) {Rq:Option Nat} {Z:Nat} (hRq:∀z,Rq=some z→R=some z∨Z≤z) {q:Nat} (hq:w.heap.size≤q) (hz:q<Z):¬Tch P M Rq q:=fun e=>by
 rcases e with e|e|e
 ·
  exact h.old hq (.inl (.inl e))
 ·
  exact h.old hq (.inl (.inr (.inl e)))
 ·
  rcases hRq q e with e|e
  ·
   exact h.old hq (.inl (.inr (.inr e)))
  ·
   omega
theorem wwrites_any {X F P M:Nat} {R:Option Nat} {room:Int} {n ag xf b c:Nat} {m:Arcs} {g d:Nat} {D:List UInt8} (i:Nat) (hi:i<m.length) (t v:Int) (ht0:0≤t) (ht:t≤4611686018427387904) (hn:n≤999000) (w:World) (h:FiM w X F P M R room n ag xf b c m g d D):Calls Tryz.prog 91 #[.pointer (some ⟨X,0,none⟩), .int .i64 i, .agg #[.int .i64 t, .int .i64 v]] w fun e w'=>e= .returned (.tuple #[])∧∃R',FiM w' X F P M R' room (n+3) ag xf b c m g d (layS m D i t v)∧Kp (Tcg P M R g) w w'∧∀j,R'=some j→R=some j∨w.heap.size≤j:=by
 obtain ⟨V,hV⟩:∃V,V=w.alloc (.cells #[.int .i64 t, .int .i64 v] 54):=⟨_,rfl⟩
 have gV:Gr w V:=by rw[hV];exact Gr.alloc (Gr.refl w) _
 have hz:w.heap.size<V.heap.size:=by rw[hV];simp
 have b0:V.cell? ⟨w.heap.size,0,none⟩=some (.int .i64 t):=by rw[hV];go_simp
 have b1:V.cell? ⟨w.heap.size,1,none⟩=some (.int .i64 v):=by rw[hV];go_simp
 have hF:=MayF.ofH h.may
 have hpl:=fun W (gW:Gr V W)=>wplace_any i hi t (by omega) W ((h.gr gV).gr gW)
 have hwr:=fun W=>writes_any t v W
 obtain ⟨k,hk⟩:∃k,k=atS m i t:=⟨_,rfl⟩
 have hlay:layS m D i t v=wrS D k t v 3:=by unfold layS;rw[←hk,wrS_end t v (by rw[hk,h.len];exact (atS_in hF hi t).2)]
 have hk12:k+12≤D.length:=by rw[hk,h.len];exact (atS_in hF hi t).2
 have hDl:(D.length:Int)≤1048576:=by have:=h.len;have:=hF.sz;omega
 rw[hlay]
 rw[←hk] at hpl
 have HV:=Lib.hid hV
 have HPL:=Lib.hid hpl
 have HWR:=Lib.hid hwr
 have H0:=Lib.hid h
 have HGV:=Lib.hid gV
 have HK12:=Lib.hid hk12
 clear hV gV h hF hpl hwr hk hlay hk12 hi ht0 ht
 go_enter Tryz.func91,Tryz.ntmps91
 go_upto_region 1 with (fail)
 rw[←HV.out]
 clear HV
 go_upto_region 3 with (first|(go_at_call 96;refine (HPL.out _ (Gr.refl _)).mono ?_;rintro e w1 ⟨rfl,g1⟩;have c0:=(Below.cell g1 (p:=⟨w.heap.size,0,none⟩) hz).trans b0;have c1:=(Below.cell g1 (p:=⟨w.heap.size,1,none⟩) hz).trans b1;have HG1:=Lib.hid g1;clear g1)|(go_at_call 105;refine (HWR.out _).mono ?_;rintro e w2 ⟨B,A0,A1,A2,k1,k2,rfl,⟨⟨y0,y1,y2,hBz⟩,hBf⟩,r0,r1,r2,g2⟩;have HG2:=Lib.hid (HG1.out.trans g2);have HRR:=Lib.hid (And.intro r0 (And.intro r1 r2));have HBF:=Lib.hid (Nat.le_trans (HG1.out.size) hBf);have HG12:=Lib.hid g2;clear g2 r0 r1 r2 hBf))
 obtain ⟨V3,hV3⟩:∃V3,V3=w2.alloc (.cells #[.int .i64 0, .int .i64 4, .int .i64 0] 3):=⟨_,rfl⟩
 have g3:Gr w2 V3:=by rw[hV3];exact Gr.alloc (Gr.refl w2) _
 have hz3:w2.heap.size<V3.heap.size:=by rw[hV3];simp
 have z0:V3.cell? ⟨w2.heap.size,0,none⟩=some (.int .i64 0):=by rw[hV3];go_simp
 have z1:V3.cell? ⟨w2.heap.size,1,none⟩=some (.int .i64 4):=by rw[hV3];go_simp
 have z2:V3.cell? ⟨w2.heap.size,2,none⟩=some (.int .i64 0):=by rw[hV3];go_simp
 have hV0:w.heap.size≤w1.heap.size:=Nat.le_trans HGV.out.size HG1.out.size
 have HTH:Hid (Thr V3 B w2.heap.size w.heap.size k t v):=Lib.hid (Thr.of ((Below.cell g3 (p:=⟨B,0,none⟩) hBz).trans y0) ((Below.cell g3 (p:=⟨B,1,none⟩) hBz).trans y1) ((Below.cell g3 (p:=⟨B,2,none⟩) hBz).trans y2) z0 z1 z2 ⟨HRR.out.1.1.gr g3,fun ad e=>Nat.le_trans hV0 (HRR.out.1.2 ad e)⟩ ⟨HRR.out.2.1.1.gr g3,fun ad e=>Nat.le_trans hV0 (HRR.out.2.1.2 ad e)⟩ ⟨HRR.out.2.2.1.gr g3,fun ad e=>Nat.le_trans hV0 (HRR.out.2.2.2 ad e)⟩)
 have HGG:=Lib.hid ((HGV.out.trans HG2.out).trans g3)
 have HBZ:Hid ((B<V3.heap.size∧w.heap.size≤B)∧(w2.heap.size<V3.heap.size∧w.heap.size≤w2.heap.size)):=Lib.hid ⟨⟨Nat.lt_of_lt_of_le hBz g3.size,Nat.le_trans HGV.out.size HBF.out⟩,hz3,(HGV.out.trans HG2.out).size⟩
 have HV3:=Lib.hid hV3
 obtain ⟨C,hC⟩:∃C,C=w2.heap.size:=⟨_,rfl⟩
 rw[←hC] at HTH HBZ
 have HC:=Lib.hid hC
 clear hV3 g3 hz3 z0 z1 z2 y0 y1 y2 hBz hV0 c0 c1 hC b0 b1
 go_wp2
 rw[←HV3.out,←HC.out]
 clear HV3 HC
 go_loopw [19] (fun j wr=>∃q:Nat,q≤3∧j= .int .i64 q∧∃Rq,FiM wr X F P M Rq room (n+q) ag xf b c m g d (wrS D k t v q)∧Kp (Tcg P M R g) V3 wr∧∀z,Rq=some z→R=some z∨V3.heap.size≤z) (fun j _=>3-(intOf j).toNat)
 case atStart=>exact ⟨0,Nat.zero_le _,rfl,R,H0.out.gr HGG.out,Kp.refl _ _,fun z hz=> .inl hz⟩
 case round=>
  obtain ⟨q,hq,rfl,Rq,hfi,hkp,hRq⟩:=hrel
  by_cases hq3:q<3
  ·
   have hqi:(q:Int)<3:=by omega
   obtain ⟨fr,ad,L,cc,t0,t1,t2,t3,t4,t5,t6⟩:=HTH.out q hq3
   have hoC:=H0.out.old HBZ.out.2.2
   have hoB:=H0.out.old HBZ.out.1.2
   have y0:=(hkp.cell (a:=⟨C,q,none⟩) HBZ.out.2.1 hoC).trans t0
   have y1:=(hkp.cell (a:=⟨B,q,none⟩) HBZ.out.1.1 hoB).trans t1
   have hadl:ad.block<V3.heap.size:=by
    obtain ⟨ad',e,hb, -⟩:=t2.2 (by omega)
    injection e with e
    subst e
    exact hb
   have yr:Rb wr (some ad) L:=hkp.rd t2 (fun _ a' e=>by injection e with e;subst e;exact H0.out.old t3)
   have hBz:B<wr.heap.size:=Nat.lt_of_lt_of_le HBZ.out.1.1 hkp.size
   have HBz:=Lib.hid hBz
   have HYR:=Lib.hid yr
   have HFI:=Lib.hid hfi
   have HKP:=Lib.hid (And.intro hkp hRq)
   have HT6:=Lib.hid (t6 D)
   have HTN:=Lib.hid (H0.out.tch hRq t3 hadl)
   have HL0:=Lib.hid t4
   have hlen:(wrS D k t v q).length=D.length:=wrS_len t v HK12.out q
   obtain ⟨o,ho⟩:∃o,o=k+fr:=⟨_,rfl⟩
   have hoi:(k:Int)+(fr:Int)=(o:Int):=by omega
   have hfit:o+L.length≤D.length:=by have:=HK12.out;omega
   rw[←ho] at HT6
   have hfi4:(fr:Int)≤12:=by omega
   have hki:(k:Int)≤1048576:=by have:=HK12.out;omega
   have hw1:IntKind.i64.wrap ((k:Int)+(fr:Int))=(o:Int):=by rw[←hoi];exact IntWalk.i64_in _ (by omega)
   have hwo:IntKind.i64.wrap (o:Int)=(o:Int):=IntWalk.i64_in _ (by omega)
   have HO:=Lib.hid (And.intro hfit (And.intro hlen hDl))
   have hs4:(L.length:Int)≤12:=by omega
   clear t0 t1 t2 t3 t4 t5 t6 hoC hoB hkp hRq hfi yr hadl hBz ho hlen hfit
   go_upto_region 6 with (fail)
   refine wp_region_Z 16 (Gr wr) (by kernel_rfl) ?_
   have hS0:Gr wr wr.drew:=Gr.drew (Gr.refl _)
   obtain ⟨w5,hw5⟩:∃w5,w5=wr.drew:=⟨_,rfl⟩
   rw[←hw5] at hS0 ⊢
   clear hw5
   refine zu 0 rfl hS0 (fun W hS=>by go_simp;rfl) ?_
   refine zu 1 rfl hS0 (fun W hS=>by go_simp;rfl) ?_
   refine zu 2 rfl hS0 (fun W hS=>by go_simp;rfl) ?_
   refine zu 3 rfl hS0 (fun W hS=>by have s:=HFI.out.gr hS;have s3:=s.x3;have s4:=s.x4;go_simp;rfl) ?_
   refine zu 4 rfl hS0 (fun W hS=>by go_simp;rfl) ?_
   refine zu 5 rfl hS0 (fun W hS=>by go_simp;rfl) ?_
   refine zu 6 rfl hS0 (fun W hS=>by go_simp;rfl) ?_
   refine zu 7 rfl hS0 (fun W hS=>by have s:=HFI.out.gr hS;have s3:=s.x3;have s4:=s.x4;go_simp;rfl) ?_
   refine zu 8 rfl hS0 (fun W hS=>by go_simp;rfl) ?_
   refine zu 9 rfl hS0 (fun W hS=>by go_simp;rfl) ?_
   refine zu 10 rfl hS0 (fun W hS=>by go_simp;rfl) ?_
   refine zu 11 rfl hS0 (fun W hS=>by go_simp;rfl) ?_
   refine zu 12 rfl hS0 (fun W hS=>by go_simp;rfl) ?_
   refine zu 13 rfl hS0 (fun W hS=>by go_simp;rfl) ?_
   refine zu 14 rfl hS0 (fun W hS=>by have c1:=(Below.cell hS (p:=⟨B,q,none⟩) HBz.out).trans y1;go_simp;rfl) ?_
   have HG5:=Lib.hid hS0
   refine wpAnyZ_ready (rs:=[15]) (by kernel_rfl) (by simp) ?_
   refine AllReadyZ.cons (i:=15) rfl (by kernel_rfl) ?zx1 AllReadyZ.nil
   intro K hK
   simp only[List.getElem_toArray,List.getElem_cons_succ,List.getElem_cons_zero]
   go_simp
   refine hK.out _ _ (fun hnz=>?zs2) (fun _=>?zr3)
   case zs2=>exact Gr.alloc HG5.out _
   clear hK K
   try (simp only[Pu,List.getElem_toArray,List.getElem_cons_succ,List.getElem_cons_zero])
   refine wpAnyZ_ready (rs:=[16]) (by kernel_rfl) (by simp) ?_
   refine AllReadyZ.cons (i:=16) rfl (by kernel_rfl) ?zx4 AllReadyZ.nil
   intro K hK
   simp only[List.getElem_toArray,List.getElem_cons_succ,List.getElem_cons_zero]
   go_simp
   refine (writeAt_any (wrS D k t v q) L o w5.heap.size 1 (by rw[HO.out.2.1];omega) HL0.out (by rw[HO.out.2.1];exact HO.out.1) (by omega) _ ((HFI.out.fs.gr HG5.out).gr (Gr.alloc (Gr.refl w5) _)) (one_part w5 L ad cc (HYR.out.gr HG5.out))).mono ?_
   rintro e w6 ⟨rfl,R6,hF6,hK6,hR6⟩
   have H6:=Lib.hid (And.intro hF6 (And.intro ((Kp.of_gr (Tch P M Rq) (HG5.out.alloc _)).trans hK6 (fun _ _ e=>e)) (fun z hz=>(hR6 z hz).imp id (fun e=>Nat.le_trans (HG5.out.alloc _).size e))))
   clear hF6 hK6 hR6 hS0
   go_wp2_with fail
   refine hK.out _ _ (fun hnz=>?zs5) (fun _=>?zr6)
   case zs5=>exact absurd rfl hnz
   clear hK K
   try (simp only[Pu,List.getElem_toArray,List.getElem_cons_succ,List.getElem_cons_zero])
   refine wpAnyZ_done (by kernel_rfl) ?_ _
   have hK6:=H6.out.2.1
   have nX:=HFI.out.nX
   have ng:=HFI.out.ng
   have x5:=(hK6.cell (a:=⟨X,5,none⟩) HFI.out.lX (fun e=>by rcases e with e|e|e;exact nX.2.1 e;exact nX.2.2.1 e;exact nX.2.2.2.2 e)).trans HFI.out.x5
   rw[HO.out.2.1] at x5
   have HX6:=Lib.hid (Nat.lt_of_lt_of_le HFI.out.lX hK6.size)
   have nB:=H0.out.tch HKP.out.2 HBZ.out.1.2 HBZ.out.1.1
   have y6:=(hK6.cell (a:=⟨B,q,none⟩) HBz.out nB).trans y1
   have HB6:=Lib.hid (Nat.lt_of_lt_of_le HBz.out hK6.size)
   have HY6:=Lib.hid (hK6.rd HYR.out (fun _ a' e=>by injection e with e;subst e;exact HTN.out))
   have HO6:=Lib.hid (hK6.own HFI.out.row (fun z e=>by injection e with e;subst e;exact fun e=>by rcases e with e|e|e;exact ng.2.1 e;exact ng.2.2.1 e;exact ng.2.2.2 e))
   have hoD:(o:Int)≤(D.length:Int):=by have:=HO.out.1;omega
   have hcd:(D.length:Int)≤(d:Int):=by have h:=own_capA HFI.out.row;rw[HO.out.2.1] at h;omega
   have hod:(o:Int)≤(d:Int):=by omega
   have hdo:¬d=o:=by have:=HL0.out;have:=HO.out.1;omega
   clear hK6 nX ng nB y0 y1
   go_upto_region 7 with (fail)
   refine region_T 12 (by kernel_rfl) (by kernel_rfl) ?_
   simp only[List.take]
   iterate 3 (refine qv ?_;simp only[Pu])
   refine q_val (v:=?qv4) (by rfl) (fun W hW=>?qh4) ?qr4
   case qh4=>have s5:=(Below.cell hW (p:=⟨X,5,none⟩) HX6.out).trans x5;go_simp;rfl
   simp only[Pu]
   iterate 7 (refine qv ?_;simp only[Pu])
   refine q_val (v:=?qv12) (by rfl) (fun W hW=>?qh12) ?qr12
   case qh12=>have c1:=(Below.cell hW (p:=⟨B,q,none⟩) HB6.out).trans y6;go_simp;rfl
   simp only[Pu]
   refine wpQuiet_nil ?_
   intro w7 hw7
   simp only[List.drop]
   have HG7:=Lib.hid hw7
   clear hw7
   refine wpList_copy_put rfl (.tmp 48) (.tmp 52) 49 49 rfl 5 Tryz.underlying49 info_one 0 g o d (d-o) cc (wrS D k t v q) L ad (by rw[HO.out.2.1];rfl) rfl (own_grU HO6.out HG7.out) (HY6.out.gr HG7.out) HL0.out (by rw[HO.out.2.1];exact HO.out.1) ?_
   intro w8 HO8 HK8
   have HFIN:Hid (FiM w8 X F P M R6 room (n+(q+1)) ag xf b c m g d (wrS D k t v (q+1))∧Kp (Tcg P M R g) V3 w8∧∀z,R6=some z→R=some z∨V3.heap.size≤z):=Lib.hid (by
    have hl2:(putB (wrS D k t v q) o L).length=(wrS D k t v q).length:=putB_len (by rw[HO.out.2.1];exact HO.out.1)
    obtain ⟨f1,f2⟩:=HFI.out.turn (H6.out.2.1.trans (Kp.of_gr (Tch P M Rq) HG7.out) (fun _ _ e=>e)) (H6.out.1.gr HG7.out) H6.out.2.2 HK8.out hl2 (by rw[hl2];exact HO8.out)
    refine ⟨by rw[HT6.out,←Nat.add_assoc];exact f1,HKP.out.1.trans f2 (fun z hz e=>?_),fun z hz=>?_⟩
    ·
     rcases e with (e|e|e)|e
     ·
      exact .inl (.inl e)
     ·
      exact .inl (.inr (.inl e))
     ·
      rcases HKP.out.2 z e with e|e
      ·
       exact .inl (.inr (.inr e))
      ·
       omega
     ·
      exact .inr e
    ·
     rcases H6.out.2.2 z hz with e|e
     ·
      exact HKP.out.2 z e
     ·
      exact .inr (Nat.le_trans HKP.out.1.size e))
   clear x5 y6
   go_wp2
   go_roundw
   case rel=>exact ⟨q+1,by omega,by go_num,R6,HFIN.out⟩
   case measure=>simp[intOf];omega
  ·
   have hq3:q=3:=by omega
   subst hq3
   have HF:=Lib.hid (And.intro hfi (And.intro ((Kp.of_gr (Tcg P M R g) HGG.out).trans hkp (fun _ _ e=>e)) (fun z hz=>(hRq z hz).imp id (fun e=>Nat.le_trans HGG.out.size e))))
   clear hfi hkp hRq
   go_wp2
   go_end0
   exact ⟨rfl,Rq,HF.out⟩
end Go.Proofs.YtoncapkmaeghfaaGreat
