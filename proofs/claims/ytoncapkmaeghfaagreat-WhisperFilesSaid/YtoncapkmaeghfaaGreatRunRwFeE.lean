import Derived.Test.YtoncapkmaeghfaaGreatRunRwFet
set_option linter.all false
set_option maxRecDepth 1000000
set_option maxHeartbeats 12800000
namespace Go.Proofs.YtoncapkmaeghfaaGreat
open Go.RowKit
theorem xfetch_gone {Y:Nat→Prop} {X:Nat} {R:Option Nat} {room:Int} {n:Nat} (now frm unt:Int) (w:World) (h:RsM Y w X R room n none):Calls Tryz.prog 37 #[.pointer (some ⟨X,0,none⟩), .string nmA, .int .i64 now, .int .i64 frm, .int .i64 unt] w fun e w'=>e= .returned (.tuple #[.agg #[.string ⟨#[]⟩, .int .i64 0, .int .i64 0, .slice none 0 0, .int .i64 0], .int .i64 5])∧Gr w w':=by
 obtain ⟨V,hV⟩:∃V,V=w.alloc (.cells #[.string ⟨#[]⟩, .int .i64 0, .int .i64 0, .slice none 0 0, .int .i64 0] 89):=⟨_,rfl⟩
 have gV:Gr w V:=by rw[hV];exact Gr.alloc (Gr.refl w) _
 have hz:w.heap.size<V.heap.size:=by rw[hV];simp
 have b0:V.cell? ⟨w.heap.size,0,none⟩=some (.string ⟨#[]⟩):=by rw[hV];go_simp
 have b1:V.cell? ⟨w.heap.size,1,none⟩=some (.int .i64 0):=by rw[hV];go_simp
 have b2:V.cell? ⟨w.heap.size,2,none⟩=some (.int .i64 0):=by rw[hV];go_simp
 have b3:V.cell? ⟨w.heap.size,3,none⟩=some (.slice none 0 0):=by rw[hV];go_simp
 have b4:V.cell? ⟨w.heap.size,4,none⟩=some (.int .i64 0):=by rw[hV];go_simp
 have f0:∀o,V.frozen? ⟨w.heap.size,o,none⟩=false:=fun o=>by rw[hV];go_simp
 have HZ:Hid (∀W,Gr V W→w.heap.size<W.heap.size∧W.cell? ⟨w.heap.size,0,none⟩=some (.string ⟨#[]⟩)∧W.cell? ⟨w.heap.size,1,none⟩=some (.int .i64 0)∧W.cell? ⟨w.heap.size,2,none⟩=some (.int .i64 0)∧W.cell? ⟨w.heap.size,3,none⟩=some (.slice none 0 0)∧W.cell? ⟨w.heap.size,4,none⟩=some (.int .i64 0)∧∀o,W.frozen? ⟨w.heap.size,o,none⟩=false):=Lib.hid fun W g=>
  ⟨Nat.lt_of_lt_of_le hz g.size,(Below.cell g (p:=⟨w.heap.size,0,none⟩) hz).trans b0,(Below.cell g (p:=⟨w.heap.size,1,none⟩) hz).trans b1,(Below.cell g (p:=⟨w.heap.size,2,none⟩) hz).trans b2,(Below.cell g (p:=⟨w.heap.size,3,none⟩) hz).trans b3,(Below.cell g (p:=⟨w.heap.size,4,none⟩) hz).trans b4,fun o=>(Below.frozen g (p:=⟨w.heap.size,o,none⟩) hz).trans (f0 o)⟩
 clear hz b0 b1 b2 b3 b4 f0
 have HV:=Lib.hid hV
 have HGV:=Lib.hid gV
 have HIN:=Lib.hid (xinfo_none V (h.gr gV))
 clear h gV hV
 go_enter Tryz.func37,Tryz.ntmps37
 go_upto_region 1 with (fail)
 rw[←HV.out]
 clear HV
 go_upto_region 2 with (go_at_call 16;refine HIN.out.mono ?_;rintro e w1 ⟨rfl,g1⟩)
 obtain ⟨V1,hV1⟩:∃V1,V1=w1.alloc (.cells #[.int .i64 0, .int .i64 0, .slice none 0 0] 24):=⟨_,rfl⟩
 have k1:Gr V V1:=by rw[hV1];exact Gr.alloc g1 _
 have HG:=Lib.hid k1
 rw[←hV1]
 obtain ⟨hz,z0,z1,z2,z3,z4,zf⟩:=HZ.out V1 k1
 have fz0:=zf 0
 have fz1:=zf 1
 have fz2:=zf 2
 have fz3:=zf 3
 have fz4:=zf 4
 clear zf
 clear hV1 k1 g1
 go_wp2
 refine bodyPost_ret (v:= .tuple #[.agg #[.string ⟨#[]⟩, .int .i64 0, .int .i64 0, .slice none 0 0, .int .i64 0], .int .i64 5]) (by simp[results,Tryz.results37,go_sem, *]) rfl ?_
 exact ⟨rfl,(((((HGV.out.trans HG.out).setCell (Nat.le_refl _) _).setCell (Nat.le_refl _) _).setCell (Nat.le_refl _) _).setCell (Nat.le_refl _) _).setCell (Nat.le_refl _) _⟩
theorem xfetch_bad {Y:Nat→Prop} {X:Nat} {R:Option Nat} {room:Int} {n:Nat} {D:List UInt8} (hD:(D.length:Int)≤1073741824) (ho:opS D=none) (now frm unt:Int) (w:World) (h:RsM Y w X R room n (some D)):Calls Tryz.prog 37 #[.pointer (some ⟨X,0,none⟩), .string nmA, .int .i64 now, .int .i64 frm, .int .i64 unt] w fun e w'=>e= .returned (.tuple #[.agg #[.string ⟨#[]⟩, .int .i64 0, .int .i64 0, .slice none 0 0, .int .i64 0], .int .i64 2])∧Gr w w':=by
 obtain ⟨V,hV⟩:∃V,V=w.alloc (.cells #[.string ⟨#[]⟩, .int .i64 0, .int .i64 0, .slice none 0 0, .int .i64 0] 89):=⟨_,rfl⟩
 have gV:Gr w V:=by rw[hV];exact Gr.alloc (Gr.refl w) _
 have hz:w.heap.size<V.heap.size:=by rw[hV];simp
 have b0:V.cell? ⟨w.heap.size,0,none⟩=some (.string ⟨#[]⟩):=by rw[hV];go_simp
 have b1:V.cell? ⟨w.heap.size,1,none⟩=some (.int .i64 0):=by rw[hV];go_simp
 have b2:V.cell? ⟨w.heap.size,2,none⟩=some (.int .i64 0):=by rw[hV];go_simp
 have b3:V.cell? ⟨w.heap.size,3,none⟩=some (.slice none 0 0):=by rw[hV];go_simp
 have b4:V.cell? ⟨w.heap.size,4,none⟩=some (.int .i64 0):=by rw[hV];go_simp
 have f0:∀o,V.frozen? ⟨w.heap.size,o,none⟩=false:=fun o=>by rw[hV];go_simp
 have HZ:Hid (∀W,Gr V W→w.heap.size<W.heap.size∧W.cell? ⟨w.heap.size,0,none⟩=some (.string ⟨#[]⟩)∧W.cell? ⟨w.heap.size,1,none⟩=some (.int .i64 0)∧W.cell? ⟨w.heap.size,2,none⟩=some (.int .i64 0)∧W.cell? ⟨w.heap.size,3,none⟩=some (.slice none 0 0)∧W.cell? ⟨w.heap.size,4,none⟩=some (.int .i64 0)∧∀o,W.frozen? ⟨w.heap.size,o,none⟩=false):=Lib.hid fun W g=>
  ⟨Nat.lt_of_lt_of_le hz g.size,(Below.cell g (p:=⟨w.heap.size,0,none⟩) hz).trans b0,(Below.cell g (p:=⟨w.heap.size,1,none⟩) hz).trans b1,(Below.cell g (p:=⟨w.heap.size,2,none⟩) hz).trans b2,(Below.cell g (p:=⟨w.heap.size,3,none⟩) hz).trans b3,(Below.cell g (p:=⟨w.heap.size,4,none⟩) hz).trans b4,fun o=>(Below.frozen g (p:=⟨w.heap.size,o,none⟩) hz).trans (f0 o)⟩
 clear hz b0 b1 b2 b3 b4 f0
 have HV:=Lib.hid hV
 have HGV:=Lib.hid gV
 have HIN:=Lib.hid (xinfo_any D hD V (h.gr gV))
 have HOD:=Lib.hid ho
 clear h gV hV ho hD
 go_enter Tryz.func37,Tryz.ntmps37
 go_upto_region 1 with (fail)
 rw[←HV.out]
 clear HV
 go_upto_region 2 with (go_at_call 16;refine HIN.out.mono ?_;rintro e w1 ⟨g1,h1⟩;rw[HOD.out] at h1;simp only at h1;subst h1)
 obtain ⟨V1,hV1⟩:∃V1,V1=w1.alloc (.cells #[.int .i64 0, .int .i64 0, .slice none 0 0] 24):=⟨_,rfl⟩
 have k1:Gr V V1:=by rw[hV1];exact Gr.alloc g1 _
 have HG:=Lib.hid k1
 rw[←hV1]
 obtain ⟨hz,z0,z1,z2,z3,z4,zf⟩:=HZ.out V1 k1
 have fz0:=zf 0
 have fz1:=zf 1
 have fz2:=zf 2
 have fz3:=zf 3
 have fz4:=zf 4
 clear zf
 clear hV1 k1 g1
 go_wp2
 refine bodyPost_ret (v:= .tuple #[.agg #[.string ⟨#[]⟩, .int .i64 0, .int .i64 0, .slice none 0 0, .int .i64 0], .int .i64 2]) (by simp[results,Tryz.results37,go_sem, *]) rfl ?_
 exact ⟨rfl,(((((HGV.out.trans HG.out).setCell (Nat.le_refl _) _).setCell (Nat.le_refl _) _).setCell (Nat.le_refl _) _).setCell (Nat.le_refl _) _).setCell (Nat.le_refl _) _⟩
theorem xfetch_time {Y:Nat→Prop} {X:Nat} {R:Option Nat} {room:Int} {n:Nat} {D:List UInt8} {ag xf:Nat} {m:Arcs} (hD:(D.length:Int)≤1073741824) (ho:opS D=some (ag,xf,m)) (now frm unt:Int) (hnow:¬(1≤now∧now≤4294967295)) (w:World) (h:RsM Y w X R room n (some D)):Calls Tryz.prog 37 #[.pointer (some ⟨X,0,none⟩), .string nmA, .int .i64 now, .int .i64 frm, .int .i64 unt] w fun e w'=>e= .returned (.tuple #[.agg #[.string ⟨#[]⟩, .int .i64 0, .int .i64 0, .slice none 0 0, .int .i64 0], .int .i64 1])∧Gr w w':=by
 obtain ⟨V,hV⟩:∃V,V=w.alloc (.cells #[.string ⟨#[]⟩, .int .i64 0, .int .i64 0, .slice none 0 0, .int .i64 0] 89):=⟨_,rfl⟩
 have gV:Gr w V:=by rw[hV];exact Gr.alloc (Gr.refl w) _
 have hz:w.heap.size<V.heap.size:=by rw[hV];simp
 have b0:V.cell? ⟨w.heap.size,0,none⟩=some (.string ⟨#[]⟩):=by rw[hV];go_simp
 have b1:V.cell? ⟨w.heap.size,1,none⟩=some (.int .i64 0):=by rw[hV];go_simp
 have b2:V.cell? ⟨w.heap.size,2,none⟩=some (.int .i64 0):=by rw[hV];go_simp
 have b3:V.cell? ⟨w.heap.size,3,none⟩=some (.slice none 0 0):=by rw[hV];go_simp
 have b4:V.cell? ⟨w.heap.size,4,none⟩=some (.int .i64 0):=by rw[hV];go_simp
 have f0:∀o,V.frozen? ⟨w.heap.size,o,none⟩=false:=fun o=>by rw[hV];go_simp
 have HZ:Hid (∀W,Gr V W→w.heap.size<W.heap.size∧W.cell? ⟨w.heap.size,0,none⟩=some (.string ⟨#[]⟩)∧W.cell? ⟨w.heap.size,1,none⟩=some (.int .i64 0)∧W.cell? ⟨w.heap.size,2,none⟩=some (.int .i64 0)∧W.cell? ⟨w.heap.size,3,none⟩=some (.slice none 0 0)∧W.cell? ⟨w.heap.size,4,none⟩=some (.int .i64 0)∧∀o,W.frozen? ⟨w.heap.size,o,none⟩=false):=Lib.hid fun W g=>
  ⟨Nat.lt_of_lt_of_le hz g.size,(Below.cell g (p:=⟨w.heap.size,0,none⟩) hz).trans b0,(Below.cell g (p:=⟨w.heap.size,1,none⟩) hz).trans b1,(Below.cell g (p:=⟨w.heap.size,2,none⟩) hz).trans b2,(Below.cell g (p:=⟨w.heap.size,3,none⟩) hz).trans b3,(Below.cell g (p:=⟨w.heap.size,4,none⟩) hz).trans b4,fun o=>(Below.frozen g (p:=⟨w.heap.size,o,none⟩) hz).trans (f0 o)⟩
 clear hz b0 b1 b2 b3 b4 f0
 have HV:=Lib.hid hV
 have HGV:=Lib.hid gV
 have HIN:=Lib.hid (xinfo_any D hD V (h.gr gV))
 have HOD:=Lib.hid ho
 clear h gV hV ho hD
 by_cases h1:now<1
 ·
  go_enter Tryz.func37,Tryz.ntmps37
  go_upto_region 1 with (fail)
  rw[←HV.out]
  clear HV
  go_upto_region 4 with (go_at_call 16;refine HIN.out.mono ?_;rintro e w1 ⟨g1,h1⟩;rw[HOD.out] at h1;obtain ⟨A1,c1,rfl,hc1,hr1,hf1⟩:=h1;have H1:=Lib.hid (And.intro hc1 (And.intro hr1 (And.intro hf1 g1)));clear hc1 hr1 hf1 g1)
  obtain ⟨V1,hV1⟩:∃V1,V1=w1.alloc (.cells #[.int .i64 ag, .int .i64 xf, .slice A1 m.length c1] 24):=⟨_,rfl⟩
  have k1:Gr w1 V1:=by rw[hV1];exact Gr.alloc (Gr.refl w1) _
  have hz1:w1.heap.size<V1.heap.size:=by rw[hV1];simp
  have y0:V1.cell? ⟨w1.heap.size,0,none⟩=some (.int .i64 ag):=by rw[hV1];go_simp
  have y1:V1.cell? ⟨w1.heap.size,1,none⟩=some (.int .i64 xf):=by rw[hV1];go_simp
  have y2:V1.cell? ⟨w1.heap.size,2,none⟩=some (.slice A1 m.length c1):=by rw[hV1];go_simp
  have HGA:=Lib.hid (H1.out.2.2.2.trans k1)
  obtain ⟨hz,z0,z1,z2,z3,z4,zf⟩:=HZ.out V1 HGA.out
  have fz0:=zf 0
  have fz1:=zf 1
  have fz2:=zf 2
  have fz3:=zf 3
  have fz4:=zf 4
  clear zf
  rw[←hV1]
  clear hV1 k1
  go_wp2
  refine bodyPost_ret (v:= .tuple #[.agg #[.string ⟨#[]⟩, .int .i64 0, .int .i64 0, .slice none 0 0, .int .i64 0], .int .i64 1]) (by simp[results,Tryz.results37,go_sem, *]) rfl ?_
  exact ⟨rfl,(((((HGV.out.trans HGA.out).setCell (Nat.le_refl _) _).setCell (Nat.le_refl _) _).setCell (Nat.le_refl _) _).setCell (Nat.le_refl _) _).setCell (Nat.le_refl _) _⟩
 ·
  have h2:4294967295<now:=by omega
  go_enter Tryz.func37,Tryz.ntmps37
  go_upto_region 1 with (fail)
  rw[←HV.out]
  clear HV
  go_upto_region 4 with (go_at_call 16;refine HIN.out.mono ?_;rintro e w1 ⟨g1,h1⟩;rw[HOD.out] at h1;obtain ⟨A1,c1,rfl,hc1,hr1,hf1⟩:=h1;have H1:=Lib.hid (And.intro hc1 (And.intro hr1 (And.intro hf1 g1)));clear hc1 hr1 hf1 g1)
  obtain ⟨V1,hV1⟩:∃V1,V1=w1.alloc (.cells #[.int .i64 ag, .int .i64 xf, .slice A1 m.length c1] 24):=⟨_,rfl⟩
  have k1:Gr w1 V1:=by rw[hV1];exact Gr.alloc (Gr.refl w1) _
  have hz1:w1.heap.size<V1.heap.size:=by rw[hV1];simp
  have y0:V1.cell? ⟨w1.heap.size,0,none⟩=some (.int .i64 ag):=by rw[hV1];go_simp
  have y1:V1.cell? ⟨w1.heap.size,1,none⟩=some (.int .i64 xf):=by rw[hV1];go_simp
  have y2:V1.cell? ⟨w1.heap.size,2,none⟩=some (.slice A1 m.length c1):=by rw[hV1];go_simp
  have HGA:=Lib.hid (H1.out.2.2.2.trans k1)
  obtain ⟨hz,z0,z1,z2,z3,z4,zf⟩:=HZ.out V1 HGA.out
  have fz0:=zf 0
  have fz1:=zf 1
  have fz2:=zf 2
  have fz3:=zf 3
  have fz4:=zf 4
  clear zf
  rw[←hV1]
  clear hV1 k1
  go_wp2
  refine bodyPost_ret (v:= .tuple #[.agg #[.string ⟨#[]⟩, .int .i64 0, .int .i64 0, .slice none 0 0, .int .i64 0], .int .i64 1]) (by simp[results,Tryz.results37,go_sem, *]) rfl ?_
  exact ⟨rfl,(((((HGV.out.trans HGA.out).setCell (Nat.le_refl _) _).setCell (Nat.le_refl _) _).setCell (Nat.le_refl _) _).setCell (Nat.le_refl _) _).setCell (Nat.le_refl _) _⟩
theorem xfetch_range {Y:Nat→Prop} {X:Nat} {R:Option Nat} {room:Int} {n:Nat} {D:List UInt8} {ag xf:Nat} {m:Arcs} (hD:(D.length:Int)≤1073741824) (ho:opS D=some (ag,xf,m)) (now frm unt:Int) (hnow1:1≤now) (hnow2:now≤4294967295) (hbad:¬(frm≤unt∧frm≤now∧0≤unt∧now-spanS m≤unt)) (w:World) (h:RsM Y w X R room n (some D)):Calls Tryz.prog 37 #[.pointer (some ⟨X,0,none⟩), .string nmA, .int .i64 now, .int .i64 frm, .int .i64 unt] w fun e w'=>e= .returned (.tuple #[.agg #[.string ⟨#[]⟩, .int .i64 0, .int .i64 0, .slice none 0 0, .int .i64 0], .int .i64 7])∧Gr w w':=by
 obtain ⟨V,hV⟩:∃V,V=w.alloc (.cells #[.string ⟨#[]⟩, .int .i64 0, .int .i64 0, .slice none 0 0, .int .i64 0] 89):=⟨_,rfl⟩
 have gV:Gr w V:=by rw[hV];exact Gr.alloc (Gr.refl w) _
 have hz:w.heap.size<V.heap.size:=by rw[hV];simp
 have b0:V.cell? ⟨w.heap.size,0,none⟩=some (.string ⟨#[]⟩):=by rw[hV];go_simp
 have b1:V.cell? ⟨w.heap.size,1,none⟩=some (.int .i64 0):=by rw[hV];go_simp
 have b2:V.cell? ⟨w.heap.size,2,none⟩=some (.int .i64 0):=by rw[hV];go_simp
 have b3:V.cell? ⟨w.heap.size,3,none⟩=some (.slice none 0 0):=by rw[hV];go_simp
 have b4:V.cell? ⟨w.heap.size,4,none⟩=some (.int .i64 0):=by rw[hV];go_simp
 have f0:∀o,V.frozen? ⟨w.heap.size,o,none⟩=false:=fun o=>by rw[hV];go_simp
 have HZ:Hid (∀W,Gr V W→w.heap.size<W.heap.size∧W.cell? ⟨w.heap.size,0,none⟩=some (.string ⟨#[]⟩)∧W.cell? ⟨w.heap.size,1,none⟩=some (.int .i64 0)∧W.cell? ⟨w.heap.size,2,none⟩=some (.int .i64 0)∧W.cell? ⟨w.heap.size,3,none⟩=some (.slice none 0 0)∧W.cell? ⟨w.heap.size,4,none⟩=some (.int .i64 0)∧∀o,W.frozen? ⟨w.heap.size,o,none⟩=false):=Lib.hid fun W g=>
  ⟨Nat.lt_of_lt_of_le hz g.size,(Below.cell g (p:=⟨w.heap.size,0,none⟩) hz).trans b0,(Below.cell g (p:=⟨w.heap.size,1,none⟩) hz).trans b1,(Below.cell g (p:=⟨w.heap.size,2,none⟩) hz).trans b2,(Below.cell g (p:=⟨w.heap.size,3,none⟩) hz).trans b3,(Below.cell g (p:=⟨w.heap.size,4,none⟩) hz).trans b4,fun o=>(Below.frozen g (p:=⟨w.heap.size,o,none⟩) hz).trans (f0 o)⟩
 clear hz b0 b1 b2 b3 b4 f0
 have HV:=Lib.hid hV
 have HGV:=Lib.hid gV
 obtain ⟨-,hlen,hM⟩:=opS_of ho
 have hF:=MayF.ofH hM
 obtain ⟨sp,hsp⟩:∃sp,sp=spanS m:=⟨_,rfl⟩
 have hsp4:(sp:Int)≤4294967295:=by have:=hF.last;rw[hsp];unfold spanS;omega
 rw[←hsp] at hbad
 have hw1:IntKind.i64.wrap (now-(sp:Int))=now-(sp:Int):=IntWalk.i64_in _ (by omega)
 have HF:=Lib.hid (And.intro hsp hM)
 have nn1:¬now<1:=by omega
 have nn2:¬4294967295<now:=by omega
 have HIN:=Lib.hid (xinfo_any D hD V (h.gr gV))
 have HOD:=Lib.hid ho
 clear h gV hV ho hD hsp hM hF hlen
 by_cases cc1:unt<frm
 ·
  go_enter Tryz.func37,Tryz.ntmps37
  go_upto_region 1 with (fail)
  rw[←HV.out]
  clear HV
  go_upto_region 4 with (go_at_call 16;refine HIN.out.mono ?_;rintro e w1 ⟨g1,h1⟩;rw[HOD.out] at h1;obtain ⟨A1,c1,rfl,hc1,hr1,hf1⟩:=h1;have H1:=Lib.hid (And.intro hc1 (And.intro hr1 (And.intro hf1 g1)));clear hc1 hr1 hf1 g1)
  obtain ⟨V1,hV1⟩:∃V1,V1=w1.alloc (.cells #[.int .i64 ag, .int .i64 xf, .slice A1 m.length c1] 24):=⟨_,rfl⟩
  have k1:Gr w1 V1:=by rw[hV1];exact Gr.alloc (Gr.refl w1) _
  have hz1:w1.heap.size<V1.heap.size:=by rw[hV1];simp
  have y0:V1.cell? ⟨w1.heap.size,0,none⟩=some (.int .i64 ag):=by rw[hV1];go_simp
  have y1:V1.cell? ⟨w1.heap.size,1,none⟩=some (.int .i64 xf):=by rw[hV1];go_simp
  have y2:V1.cell? ⟨w1.heap.size,2,none⟩=some (.slice A1 m.length c1):=by rw[hV1];go_simp
  have HGA:=Lib.hid (H1.out.2.2.2.trans k1)
  have hsp2:=rhspan_any ag xf A1 c1 m HF.out.2 V1 (H1.out.2.1.gr k1)
  rw[←HF.out.1] at hsp2
  have HSP:=Lib.hid hsp2
  rw[←hV1]
  clear hV1 k1 hsp2
  go_upto_region 7 with (go_at_call 72;refine HSP.out.mono ?_;rintro e w3 ⟨rfl,g3⟩;have HG3:=Lib.hid (HGA.out.trans g3);clear g3)
  obtain ⟨hz,z0,z1,z2,z3,z4,zf⟩:=HZ.out w3 HG3.out
  have fz0:=zf 0
  have fz1:=zf 1
  have fz2:=zf 2
  have fz3:=zf 3
  have fz4:=zf 4
  clear zf
  go_wp2
  refine bodyPost_ret (v:= .tuple #[.agg #[.string ⟨#[]⟩, .int .i64 0, .int .i64 0, .slice none 0 0, .int .i64 0], .int .i64 7]) (by simp[results,Tryz.results37,go_sem, *]) rfl ?_
  exact ⟨rfl,(((((HGV.out.trans HG3.out).setCell (Nat.le_refl _) _).setCell (Nat.le_refl _) _).setCell (Nat.le_refl _) _).setCell (Nat.le_refl _) _).setCell (Nat.le_refl _) _⟩
 by_cases cc2:now<frm
 ·
  go_enter Tryz.func37,Tryz.ntmps37
  go_upto_region 1 with (fail)
  rw[←HV.out]
  clear HV
  go_upto_region 4 with (go_at_call 16;refine HIN.out.mono ?_;rintro e w1 ⟨g1,h1⟩;rw[HOD.out] at h1;obtain ⟨A1,c1,rfl,hc1,hr1,hf1⟩:=h1;have H1:=Lib.hid (And.intro hc1 (And.intro hr1 (And.intro hf1 g1)));clear hc1 hr1 hf1 g1)
  obtain ⟨V1,hV1⟩:∃V1,V1=w1.alloc (.cells #[.int .i64 ag, .int .i64 xf, .slice A1 m.length c1] 24):=⟨_,rfl⟩
  have k1:Gr w1 V1:=by rw[hV1];exact Gr.alloc (Gr.refl w1) _
  have hz1:w1.heap.size<V1.heap.size:=by rw[hV1];simp
  have y0:V1.cell? ⟨w1.heap.size,0,none⟩=some (.int .i64 ag):=by rw[hV1];go_simp
  have y1:V1.cell? ⟨w1.heap.size,1,none⟩=some (.int .i64 xf):=by rw[hV1];go_simp
  have y2:V1.cell? ⟨w1.heap.size,2,none⟩=some (.slice A1 m.length c1):=by rw[hV1];go_simp
  have HGA:=Lib.hid (H1.out.2.2.2.trans k1)
  have hsp2:=rhspan_any ag xf A1 c1 m HF.out.2 V1 (H1.out.2.1.gr k1)
  rw[←HF.out.1] at hsp2
  have HSP:=Lib.hid hsp2
  rw[←hV1]
  clear hV1 k1 hsp2
  go_upto_region 7 with (go_at_call 72;refine HSP.out.mono ?_;rintro e w3 ⟨rfl,g3⟩;have HG3:=Lib.hid (HGA.out.trans g3);clear g3)
  obtain ⟨hz,z0,z1,z2,z3,z4,zf⟩:=HZ.out w3 HG3.out
  have fz0:=zf 0
  have fz1:=zf 1
  have fz2:=zf 2
  have fz3:=zf 3
  have fz4:=zf 4
  clear zf
  go_wp2
  refine bodyPost_ret (v:= .tuple #[.agg #[.string ⟨#[]⟩, .int .i64 0, .int .i64 0, .slice none 0 0, .int .i64 0], .int .i64 7]) (by simp[results,Tryz.results37,go_sem, *]) rfl ?_
  exact ⟨rfl,(((((HGV.out.trans HG3.out).setCell (Nat.le_refl _) _).setCell (Nat.le_refl _) _).setCell (Nat.le_refl _) _).setCell (Nat.le_refl _) _).setCell (Nat.le_refl _) _⟩
 by_cases cc3:unt<0
 ·
  go_enter Tryz.func37,Tryz.ntmps37
  go_upto_region 1 with (fail)
  rw[←HV.out]
  clear HV
  go_upto_region 4 with (go_at_call 16;refine HIN.out.mono ?_;rintro e w1 ⟨g1,h1⟩;rw[HOD.out] at h1;obtain ⟨A1,c1,rfl,hc1,hr1,hf1⟩:=h1;have H1:=Lib.hid (And.intro hc1 (And.intro hr1 (And.intro hf1 g1)));clear hc1 hr1 hf1 g1)
  obtain ⟨V1,hV1⟩:∃V1,V1=w1.alloc (.cells #[.int .i64 ag, .int .i64 xf, .slice A1 m.length c1] 24):=⟨_,rfl⟩
  have k1:Gr w1 V1:=by rw[hV1];exact Gr.alloc (Gr.refl w1) _
  have hz1:w1.heap.size<V1.heap.size:=by rw[hV1];simp
  have y0:V1.cell? ⟨w1.heap.size,0,none⟩=some (.int .i64 ag):=by rw[hV1];go_simp
  have y1:V1.cell? ⟨w1.heap.size,1,none⟩=some (.int .i64 xf):=by rw[hV1];go_simp
  have y2:V1.cell? ⟨w1.heap.size,2,none⟩=some (.slice A1 m.length c1):=by rw[hV1];go_simp
  have HGA:=Lib.hid (H1.out.2.2.2.trans k1)
  have hsp2:=rhspan_any ag xf A1 c1 m HF.out.2 V1 (H1.out.2.1.gr k1)
  rw[←HF.out.1] at hsp2
  have HSP:=Lib.hid hsp2
  rw[←hV1]
  clear hV1 k1 hsp2
  go_upto_region 7 with (go_at_call 72;refine HSP.out.mono ?_;rintro e w3 ⟨rfl,g3⟩;have HG3:=Lib.hid (HGA.out.trans g3);clear g3)
  obtain ⟨hz,z0,z1,z2,z3,z4,zf⟩:=HZ.out w3 HG3.out
  have fz0:=zf 0
  have fz1:=zf 1
  have fz2:=zf 2
  have fz3:=zf 3
  have fz4:=zf 4
  clear zf
  go_wp2
  refine bodyPost_ret (v:= .tuple #[.agg #[.string ⟨#[]⟩, .int .i64 0, .int .i64 0, .slice none 0 0, .int .i64 0], .int .i64 7]) (by simp[results,Tryz.results37,go_sem, *]) rfl ?_
  exact ⟨rfl,(((((HGV.out.trans HG3.out).setCell (Nat.le_refl _) _).setCell (Nat.le_refl _) _).setCell (Nat.le_refl _) _).setCell (Nat.le_refl _) _).setCell (Nat.le_refl _) _⟩
 have cc4:unt<now-(sp:Int):=by omega
 go_enter Tryz.func37,Tryz.ntmps37
 go_upto_region 1 with (fail)
 rw[←HV.out]
 clear HV
 go_upto_region 4 with (go_at_call 16;refine HIN.out.mono ?_;rintro e w1 ⟨g1,h1⟩;rw[HOD.out] at h1;obtain ⟨A1,c1,rfl,hc1,hr1,hf1⟩:=h1;have H1:=Lib.hid (And.intro hc1 (And.intro hr1 (And.intro hf1 g1)));clear hc1 hr1 hf1 g1)
 obtain ⟨V1,hV1⟩:∃V1,V1=w1.alloc (.cells #[.int .i64 ag, .int .i64 xf, .slice A1 m.length c1] 24):=⟨_,rfl⟩
 have k1:Gr w1 V1:=by rw[hV1];exact Gr.alloc (Gr.refl w1) _
 have hz1:w1.heap.size<V1.heap.size:=by rw[hV1];simp
 have y0:V1.cell? ⟨w1.heap.size,0,none⟩=some (.int .i64 ag):=by rw[hV1];go_simp
 have y1:V1.cell? ⟨w1.heap.size,1,none⟩=some (.int .i64 xf):=by rw[hV1];go_simp
 have y2:V1.cell? ⟨w1.heap.size,2,none⟩=some (.slice A1 m.length c1):=by rw[hV1];go_simp
 have HGA:=Lib.hid (H1.out.2.2.2.trans k1)
 have hsp2:=rhspan_any ag xf A1 c1 m HF.out.2 V1 (H1.out.2.1.gr k1)
 rw[←HF.out.1] at hsp2
 have HSP:=Lib.hid hsp2
 rw[←hV1]
 clear hV1 k1 hsp2
 go_upto_region 7 with (go_at_call 72;refine HSP.out.mono ?_;rintro e w3 ⟨rfl,g3⟩;have HG3:=Lib.hid (HGA.out.trans g3);clear g3)
 obtain ⟨hz,z0,z1,z2,z3,z4,zf⟩:=HZ.out w3 HG3.out
 have fz0:=zf 0
 have fz1:=zf 1
 have fz2:=zf 2
 have fz3:=zf 3
 have fz4:=zf 4
 clear zf
 go_wp2
 refine bodyPost_ret (v:= .tuple #[.agg #[.string ⟨#[]⟩, .int .i64 0, .int .i64 0, .slice none 0 0, .int .i64 0], .int .i64 7]) (by simp[results,Tryz.results37,go_sem, *]) rfl ?_
 exact ⟨rfl,(((((HGV.out.trans HG3.out).setCell (Nat.le_refl _) _).setCell (Nat.le_refl _) _).setCell (Nat.le_refl _) _).setCell (Nat.le_refl _) _).setCell (Nat.le_refl _) _⟩
theorem wfetch_gone {Y:Nat→Prop} {F P M:Nat} {R:Option Nat} {room:Int} {n:Nat} (now frm unt:Int) (w:World) (h:FsM Y w F P M R room n none):Calls Tryz.prog 36 #[.pointer (some ⟨F,0,none⟩), .string nmA, .int .i64 now, .int .i64 frm, .int .i64 unt] w fun e w'=>e= .returned (.tuple #[.agg #[.string ⟨#[]⟩, .int .i64 0, .int .i64 0, .slice none 0 0, .int .i64 0], .int .i64 5])∧Gr w w':=by
 obtain ⟨V,hV⟩:∃V,V=w.alloc (.cells #[.string ⟨#[]⟩, .int .i64 0, .int .i64 0, .slice none 0 0, .int .i64 0] 89):=⟨_,rfl⟩
 have gV:Gr w V:=by rw[hV];exact Gr.alloc (Gr.refl w) _
 have hz:w.heap.size<V.heap.size:=by rw[hV];simp
 have b0:V.cell? ⟨w.heap.size,0,none⟩=some (.string ⟨#[]⟩):=by rw[hV];go_simp
 have b1:V.cell? ⟨w.heap.size,1,none⟩=some (.int .i64 0):=by rw[hV];go_simp
 have b2:V.cell? ⟨w.heap.size,2,none⟩=some (.int .i64 0):=by rw[hV];go_simp
 have b3:V.cell? ⟨w.heap.size,3,none⟩=some (.slice none 0 0):=by rw[hV];go_simp
 have b4:V.cell? ⟨w.heap.size,4,none⟩=some (.int .i64 0):=by rw[hV];go_simp
 have f0:∀o,V.frozen? ⟨w.heap.size,o,none⟩=false:=fun o=>by rw[hV];go_simp
 have HZ:Hid (∀W,Gr V W→w.heap.size<W.heap.size∧W.cell? ⟨w.heap.size,0,none⟩=some (.string ⟨#[]⟩)∧W.cell? ⟨w.heap.size,1,none⟩=some (.int .i64 0)∧W.cell? ⟨w.heap.size,2,none⟩=some (.int .i64 0)∧W.cell? ⟨w.heap.size,3,none⟩=some (.slice none 0 0)∧W.cell? ⟨w.heap.size,4,none⟩=some (.int .i64 0)∧∀o,W.frozen? ⟨w.heap.size,o,none⟩=false):=Lib.hid fun W g=>
  ⟨Nat.lt_of_lt_of_le hz g.size,(Below.cell g (p:=⟨w.heap.size,0,none⟩) hz).trans b0,(Below.cell g (p:=⟨w.heap.size,1,none⟩) hz).trans b1,(Below.cell g (p:=⟨w.heap.size,2,none⟩) hz).trans b2,(Below.cell g (p:=⟨w.heap.size,3,none⟩) hz).trans b3,(Below.cell g (p:=⟨w.heap.size,4,none⟩) hz).trans b4,fun o=>(Below.frozen g (p:=⟨w.heap.size,o,none⟩) hz).trans (f0 o)⟩
 clear hz b0 b1 b2 b3 b4 f0
 have HV:=Lib.hid hV
 have HGV:=Lib.hid gV
 have HOP:=Lib.hid (open_gone V (h.gr gV))
 clear h gV hV
 go_enter Tryz.func36,Tryz.ntmps36
 go_upto_region 1 with (fail)
 rw[←HV.out]
 clear HV
 go_upto_region 2 with (go_at_call 44;refine HOP.out.mono ?_;rintro e w1 ⟨rfl,rfl⟩)
 obtain ⟨hz,z0,z1,z2,z3,z4,zf⟩:=HZ.out V (Gr.refl _)
 have fz0:=zf 0
 have fz1:=zf 1
 have fz2:=zf 2
 have fz3:=zf 3
 have fz4:=zf 4
 clear zf
 go_wp2
 refine bodyPost_ret (v:= .tuple #[.agg #[.string ⟨#[]⟩, .int .i64 0, .int .i64 0, .slice none 0 0, .int .i64 0], .int .i64 5]) (by simp[results,Tryz.results36,go_sem, *]) rfl ?_
 exact ⟨rfl,(((((HGV.out.trans (Gr.refl _)).setCell (Nat.le_refl _) _).setCell (Nat.le_refl _) _).setCell (Nat.le_refl _) _).setCell (Nat.le_refl _) _).setCell (Nat.le_refl _) _⟩
theorem wfetch_bad {Y:Nat→Prop} {F P M:Nat} {R:Option Nat} {room:Int} {n:Nat} {D:List UInt8} (hD:(D.length:Int)≤1073741824) (ho:opS D=none) (now frm unt:Int) (w:World) (h:FsM Y w F P M R room n (some D)):Calls Tryz.prog 36 #[.pointer (some ⟨F,0,none⟩), .string nmA, .int .i64 now, .int .i64 frm, .int .i64 unt] w fun e w'=>e= .returned (.tuple #[.agg #[.string ⟨#[]⟩, .int .i64 0, .int .i64 0, .slice none 0 0, .int .i64 0], .int .i64 2])∧Gr w w':=by
 obtain ⟨V,hV⟩:∃V,V=w.alloc (.cells #[.string ⟨#[]⟩, .int .i64 0, .int .i64 0, .slice none 0 0, .int .i64 0] 89):=⟨_,rfl⟩
 have gV:Gr w V:=by rw[hV];exact Gr.alloc (Gr.refl w) _
 have hz:w.heap.size<V.heap.size:=by rw[hV];simp
 have b0:V.cell? ⟨w.heap.size,0,none⟩=some (.string ⟨#[]⟩):=by rw[hV];go_simp
 have b1:V.cell? ⟨w.heap.size,1,none⟩=some (.int .i64 0):=by rw[hV];go_simp
 have b2:V.cell? ⟨w.heap.size,2,none⟩=some (.int .i64 0):=by rw[hV];go_simp
 have b3:V.cell? ⟨w.heap.size,3,none⟩=some (.slice none 0 0):=by rw[hV];go_simp
 have b4:V.cell? ⟨w.heap.size,4,none⟩=some (.int .i64 0):=by rw[hV];go_simp
 have f0:∀o,V.frozen? ⟨w.heap.size,o,none⟩=false:=fun o=>by rw[hV];go_simp
 have HZ:Hid (∀W,Gr V W→w.heap.size<W.heap.size∧W.cell? ⟨w.heap.size,0,none⟩=some (.string ⟨#[]⟩)∧W.cell? ⟨w.heap.size,1,none⟩=some (.int .i64 0)∧W.cell? ⟨w.heap.size,2,none⟩=some (.int .i64 0)∧W.cell? ⟨w.heap.size,3,none⟩=some (.slice none 0 0)∧W.cell? ⟨w.heap.size,4,none⟩=some (.int .i64 0)∧∀o,W.frozen? ⟨w.heap.size,o,none⟩=false):=Lib.hid fun W g=>
  ⟨Nat.lt_of_lt_of_le hz g.size,(Below.cell g (p:=⟨w.heap.size,0,none⟩) hz).trans b0,(Below.cell g (p:=⟨w.heap.size,1,none⟩) hz).trans b1,(Below.cell g (p:=⟨w.heap.size,2,none⟩) hz).trans b2,(Below.cell g (p:=⟨w.heap.size,3,none⟩) hz).trans b3,(Below.cell g (p:=⟨w.heap.size,4,none⟩) hz).trans b4,fun o=>(Below.frozen g (p:=⟨w.heap.size,o,none⟩) hz).trans (f0 o)⟩
 clear hz b0 b1 b2 b3 b4 f0
 have HV:=Lib.hid hV
 have HGV:=Lib.hid gV
 have HOP:=Lib.hid (open_any D hD V (h.gr gV))
 have HOD:=Lib.hid ho
 clear h gV hV ho hD
 go_enter Tryz.func36,Tryz.ntmps36
 go_upto_region 1 with (fail)
 rw[←HV.out]
 clear HV
 go_upto_region 2 with (go_at_call 44;refine HOP.out.mono ?_;rintro e w1 ⟨g1,h1⟩;rw[HOD.out] at h1;simp only at h1;subst h1;have HG:=Lib.hid g1;clear g1)
 obtain ⟨hz,z0,z1,z2,z3,z4,zf⟩:=HZ.out w1 HG.out
 have fz0:=zf 0
 have fz1:=zf 1
 have fz2:=zf 2
 have fz3:=zf 3
 have fz4:=zf 4
 clear zf
 go_wp2
 refine bodyPost_ret (v:= .tuple #[.agg #[.string ⟨#[]⟩, .int .i64 0, .int .i64 0, .slice none 0 0, .int .i64 0], .int .i64 2]) (by simp[results,Tryz.results36,go_sem, *]) rfl ?_
 exact ⟨rfl,(((((HGV.out.trans HG.out).setCell (Nat.le_refl _) _).setCell (Nat.le_refl _) _).setCell (Nat.le_refl _) _).setCell (Nat.le_refl _) _).setCell (Nat.le_refl _) _⟩
theorem wfetch_time {Y:Nat→Prop} {F P M:Nat} {R:Option Nat} {room:Int} {n:Nat} {D:List UInt8} {ag xf:Nat} {m:Arcs} (hD:(D.length:Int)≤1073741824) (ho:opS D=some (ag,xf,m)) (now frm unt:Int) (hnow:¬(1≤now∧now≤4294967295)) (w:World) (h:FsM Y w F P M R room n (some D)):Calls Tryz.prog 36 #[.pointer (some ⟨F,0,none⟩), .string nmA, .int .i64 now, .int .i64 frm, .int .i64 unt] w fun e w'=>e= .returned (.tuple #[.agg #[.string ⟨#[]⟩, .int .i64 0, .int .i64 0, .slice none 0 0, .int .i64 0], .int .i64 1])∧Gr w w':=by
 obtain ⟨V,hV⟩:∃V,V=w.alloc (.cells #[.string ⟨#[]⟩, .int .i64 0, .int .i64 0, .slice none 0 0, .int .i64 0] 89):=⟨_,rfl⟩
 have gV:Gr w V:=by rw[hV];exact Gr.alloc (Gr.refl w) _
 have hz:w.heap.size<V.heap.size:=by rw[hV];simp
 have b0:V.cell? ⟨w.heap.size,0,none⟩=some (.string ⟨#[]⟩):=by rw[hV];go_simp
 have b1:V.cell? ⟨w.heap.size,1,none⟩=some (.int .i64 0):=by rw[hV];go_simp
 have b2:V.cell? ⟨w.heap.size,2,none⟩=some (.int .i64 0):=by rw[hV];go_simp
 have b3:V.cell? ⟨w.heap.size,3,none⟩=some (.slice none 0 0):=by rw[hV];go_simp
 have b4:V.cell? ⟨w.heap.size,4,none⟩=some (.int .i64 0):=by rw[hV];go_simp
 have f0:∀o,V.frozen? ⟨w.heap.size,o,none⟩=false:=fun o=>by rw[hV];go_simp
 have HZ:Hid (∀W,Gr V W→w.heap.size<W.heap.size∧W.cell? ⟨w.heap.size,0,none⟩=some (.string ⟨#[]⟩)∧W.cell? ⟨w.heap.size,1,none⟩=some (.int .i64 0)∧W.cell? ⟨w.heap.size,2,none⟩=some (.int .i64 0)∧W.cell? ⟨w.heap.size,3,none⟩=some (.slice none 0 0)∧W.cell? ⟨w.heap.size,4,none⟩=some (.int .i64 0)∧∀o,W.frozen? ⟨w.heap.size,o,none⟩=false):=Lib.hid fun W g=>
  ⟨Nat.lt_of_lt_of_le hz g.size,(Below.cell g (p:=⟨w.heap.size,0,none⟩) hz).trans b0,(Below.cell g (p:=⟨w.heap.size,1,none⟩) hz).trans b1,(Below.cell g (p:=⟨w.heap.size,2,none⟩) hz).trans b2,(Below.cell g (p:=⟨w.heap.size,3,none⟩) hz).trans b3,(Below.cell g (p:=⟨w.heap.size,4,none⟩) hz).trans b4,fun o=>(Below.frozen g (p:=⟨w.heap.size,o,none⟩) hz).trans (f0 o)⟩
 clear hz b0 b1 b2 b3 b4 f0
 have HV:=Lib.hid hV
 have HGV:=Lib.hid gV
 obtain ⟨-,hlen,hM⟩:=opS_of ho
 have hF:=MayF.ofH hM
 obtain ⟨sp,hsp⟩:∃sp,sp=spanS m:=⟨_,rfl⟩
 have hsp4:(sp:Int)≤4294967295:=by have:=hF.last;rw[hsp];unfold spanS;omega
 have HSP:Hid (∀X b cc g d (W:World),FiM W X F P M R room n ag xf b cc m g d D→Calls Tryz.prog 68 #[.agg #[.int .i64 ag, .int .i64 xf, .slice (some ⟨b,0,none⟩) m.length cc]] W fun e w'=>e= .returned (.int .i64 (sp:Nat))∧Gr W w'):=Lib.hid (fun X b cc g d W hW=>by
  have:=span_any ag xf (some ⟨b,0,none⟩) cc (ints m) (by rw[ints_len];have:=hF.l8;omega) W hW.ri
  rw[hM,nats_ints,ints_len] at this
  rw[hsp]
  exact this)
 have HOP:=Lib.hid (open_any D hD V (h.gr gV))
 have HOD:=Lib.hid ho
 have HNW:Hid ((decide (1≤now)&&decide (now≤4294967295))=false):=Lib.hid (by rw[Bool.and_eq_false_iff,decide_eq_false_iff_not,decide_eq_false_iff_not];omega)
 clear h gV hV ho hD hsp hM hF hlen hnow
 go_enter Tryz.func36,Tryz.ntmps36
 go_upto_region 1 with (fail)
 rw[←HV.out]
 clear HV
 go_upto_region 6 with (first|(go_at_call 44;refine HOP.out.mono ?_;rintro e w1 ⟨g1,h1⟩;rw[HOD.out] at h1;obtain ⟨X,b,cc,g,d,rfl,hfi,hgw⟩:=h1;have H1:=Lib.hid (And.intro g1 hfi);have x0:=hfi.x0;have x1:=hfi.x1;have x2:=hfi.x2;clear g1 hfi hgw)|(go_at_call 68;refine (HSP.out X b cc g d w1 H1.out.2).mono ?_;rintro e w3 ⟨rfl,g3⟩;have HG3:=Lib.hid (H1.out.1.trans g3);clear g3 x0 x1 x2)|(go_at_call 57;refine (isNow_any now _).mono ?_;rintro e w2 ⟨rfl,rfl⟩;rw[HNW.out]))
 obtain ⟨hz,z0,z1,z2,z3,z4,zf⟩:=HZ.out w3 HG3.out
 have fz0:=zf 0
 have fz1:=zf 1
 have fz2:=zf 2
 have fz3:=zf 3
 have fz4:=zf 4
 clear zf
 go_wp2
 refine bodyPost_ret (v:= .tuple #[.agg #[.string ⟨#[]⟩, .int .i64 0, .int .i64 0, .slice none 0 0, .int .i64 0], .int .i64 1]) (by simp[results,Tryz.results36,go_sem, *]) rfl ?_
 exact ⟨rfl,(((((HGV.out.trans HG3.out).setCell (Nat.le_refl _) _).setCell (Nat.le_refl _) _).setCell (Nat.le_refl _) _).setCell (Nat.le_refl _) _).setCell (Nat.le_refl _) _⟩
theorem wfetch_range {Y:Nat→Prop} {F P M:Nat} {R:Option Nat} {room:Int} {n:Nat} {D:List UInt8} {ag xf:Nat} {m:Arcs} (hD:(D.length:Int)≤1073741824) (ho:opS D=some (ag,xf,m)) (now frm unt:Int) (hnow1:1≤now) (hnow2:now≤4294967295) (hbad:¬(frm≤unt∧frm≤now∧0≤unt∧now-spanS m≤unt)) (w:World) (h:FsM Y w F P M R room n (some D)):Calls Tryz.prog 36 #[.pointer (some ⟨F,0,none⟩), .string nmA, .int .i64 now, .int .i64 frm, .int .i64 unt] w fun e w'=>e= .returned (.tuple #[.agg #[.string ⟨#[]⟩, .int .i64 0, .int .i64 0, .slice none 0 0, .int .i64 0], .int .i64 7])∧Gr w w':=by
 obtain ⟨V,hV⟩:∃V,V=w.alloc (.cells #[.string ⟨#[]⟩, .int .i64 0, .int .i64 0, .slice none 0 0, .int .i64 0] 89):=⟨_,rfl⟩
 have gV:Gr w V:=by rw[hV];exact Gr.alloc (Gr.refl w) _
 have hz:w.heap.size<V.heap.size:=by rw[hV];simp
 have b0:V.cell? ⟨w.heap.size,0,none⟩=some (.string ⟨#[]⟩):=by rw[hV];go_simp
 have b1:V.cell? ⟨w.heap.size,1,none⟩=some (.int .i64 0):=by rw[hV];go_simp
 have b2:V.cell? ⟨w.heap.size,2,none⟩=some (.int .i64 0):=by rw[hV];go_simp
 have b3:V.cell? ⟨w.heap.size,3,none⟩=some (.slice none 0 0):=by rw[hV];go_simp
 have b4:V.cell? ⟨w.heap.size,4,none⟩=some (.int .i64 0):=by rw[hV];go_simp
 have f0:∀o,V.frozen? ⟨w.heap.size,o,none⟩=false:=fun o=>by rw[hV];go_simp
 have HZ:Hid (∀W,Gr V W→w.heap.size<W.heap.size∧W.cell? ⟨w.heap.size,0,none⟩=some (.string ⟨#[]⟩)∧W.cell? ⟨w.heap.size,1,none⟩=some (.int .i64 0)∧W.cell? ⟨w.heap.size,2,none⟩=some (.int .i64 0)∧W.cell? ⟨w.heap.size,3,none⟩=some (.slice none 0 0)∧W.cell? ⟨w.heap.size,4,none⟩=some (.int .i64 0)∧∀o,W.frozen? ⟨w.heap.size,o,none⟩=false):=Lib.hid fun W g=>
  ⟨Nat.lt_of_lt_of_le hz g.size,(Below.cell g (p:=⟨w.heap.size,0,none⟩) hz).trans b0,(Below.cell g (p:=⟨w.heap.size,1,none⟩) hz).trans b1,(Below.cell g (p:=⟨w.heap.size,2,none⟩) hz).trans b2,(Below.cell g (p:=⟨w.heap.size,3,none⟩) hz).trans b3,(Below.cell g (p:=⟨w.heap.size,4,none⟩) hz).trans b4,fun o=>(Below.frozen g (p:=⟨w.heap.size,o,none⟩) hz).trans (f0 o)⟩
 clear hz b0 b1 b2 b3 b4 f0
 have HV:=Lib.hid hV
 have HGV:=Lib.hid gV
 obtain ⟨-,hlen,hM⟩:=opS_of ho
 have hF:=MayF.ofH hM
 obtain ⟨sp,hsp⟩:∃sp,sp=spanS m:=⟨_,rfl⟩
 have hsp4:(sp:Int)≤4294967295:=by have:=hF.last;rw[hsp];unfold spanS;omega
 rw[←hsp] at hbad
 have hw1:IntKind.i64.wrap (now-(sp:Int))=now-(sp:Int):=IntWalk.i64_in _ (by omega)
 have HSP:Hid (∀X b cc g d (W:World),FiM W X F P M R room n ag xf b cc m g d D→Calls Tryz.prog 68 #[.agg #[.int .i64 ag, .int .i64 xf, .slice (some ⟨b,0,none⟩) m.length cc]] W fun e w'=>e= .returned (.int .i64 (sp:Nat))∧Gr W w'):=Lib.hid (fun X b cc g d W hW=>by
  have:=span_any ag xf (some ⟨b,0,none⟩) cc (ints m) (by rw[ints_len];have:=hF.l8;omega) W hW.ri
  rw[hM,nats_ints,ints_len] at this
  rw[hsp]
  exact this)
 have HOP:=Lib.hid (open_any D hD V (h.gr gV))
 have HOD:=Lib.hid ho
 have HNW:Hid ((decide (1≤now)&&decide (now≤4294967295))=true):=Lib.hid (by rw[decide_eq_true hnow1,decide_eq_true hnow2];rfl)
 clear h gV hV ho hD hsp hM hF hlen
 by_cases cc1:unt<frm
 ·
  go_enter Tryz.func36,Tryz.ntmps36
  go_upto_region 1 with (fail)
  rw[←HV.out]
  clear HV
  go_upto_region 8 with (first|(go_at_call 44;refine HOP.out.mono ?_;rintro e w1 ⟨g1,h1⟩;rw[HOD.out] at h1;obtain ⟨X,b,cc,g,d,rfl,hfi,hgw⟩:=h1;have H1:=Lib.hid (And.intro g1 hfi);have x0:=hfi.x0;have x1:=hfi.x1;have x2:=hfi.x2;clear g1 hfi hgw)|(go_at_call 68;refine (HSP.out X b cc g d w1 H1.out.2).mono ?_;rintro e w3 ⟨rfl,g3⟩;have HG3:=Lib.hid (H1.out.1.trans g3);clear g3 x0 x1 x2)|(go_at_call 57;refine (isNow_any now _).mono ?_;rintro e w2 ⟨rfl,rfl⟩;rw[HNW.out]))
  obtain ⟨hz,z0,z1,z2,z3,z4,zf⟩:=HZ.out w3 HG3.out
  have fz0:=zf 0
  have fz1:=zf 1
  have fz2:=zf 2
  have fz3:=zf 3
  have fz4:=zf 4
  clear zf
  go_wp2
  refine bodyPost_ret (v:= .tuple #[.agg #[.string ⟨#[]⟩, .int .i64 0, .int .i64 0, .slice none 0 0, .int .i64 0], .int .i64 7]) (by simp[results,Tryz.results36,go_sem, *]) rfl ?_
  exact ⟨rfl,(((((HGV.out.trans HG3.out).setCell (Nat.le_refl _) _).setCell (Nat.le_refl _) _).setCell (Nat.le_refl _) _).setCell (Nat.le_refl _) _).setCell (Nat.le_refl _) _⟩
 by_cases cc2:now<frm
 ·
  go_enter Tryz.func36,Tryz.ntmps36
  go_upto_region 1 with (fail)
  rw[←HV.out]
  clear HV
  go_upto_region 8 with (first|(go_at_call 44;refine HOP.out.mono ?_;rintro e w1 ⟨g1,h1⟩;rw[HOD.out] at h1;obtain ⟨X,b,cc,g,d,rfl,hfi,hgw⟩:=h1;have H1:=Lib.hid (And.intro g1 hfi);have x0:=hfi.x0;have x1:=hfi.x1;have x2:=hfi.x2;clear g1 hfi hgw)|(go_at_call 68;refine (HSP.out X b cc g d w1 H1.out.2).mono ?_;rintro e w3 ⟨rfl,g3⟩;have HG3:=Lib.hid (H1.out.1.trans g3);clear g3 x0 x1 x2)|(go_at_call 57;refine (isNow_any now _).mono ?_;rintro e w2 ⟨rfl,rfl⟩;rw[HNW.out]))
  obtain ⟨hz,z0,z1,z2,z3,z4,zf⟩:=HZ.out w3 HG3.out
  have fz0:=zf 0
  have fz1:=zf 1
  have fz2:=zf 2
  have fz3:=zf 3
  have fz4:=zf 4
  clear zf
  go_wp2
  refine bodyPost_ret (v:= .tuple #[.agg #[.string ⟨#[]⟩, .int .i64 0, .int .i64 0, .slice none 0 0, .int .i64 0], .int .i64 7]) (by simp[results,Tryz.results36,go_sem, *]) rfl ?_
  exact ⟨rfl,(((((HGV.out.trans HG3.out).setCell (Nat.le_refl _) _).setCell (Nat.le_refl _) _).setCell (Nat.le_refl _) _).setCell (Nat.le_refl _) _).setCell (Nat.le_refl _) _⟩
 by_cases cc3:unt<0
 ·
  go_enter Tryz.func36,Tryz.ntmps36
  go_upto_region 1 with (fail)
  rw[←HV.out]
  clear HV
  go_upto_region 8 with (first|(go_at_call 44;refine HOP.out.mono ?_;rintro e w1 ⟨g1,h1⟩;rw[HOD.out] at h1;obtain ⟨X,b,cc,g,d,rfl,hfi,hgw⟩:=h1;have H1:=Lib.hid (And.intro g1 hfi);have x0:=hfi.x0;have x1:=hfi.x1;have x2:=hfi.x2;clear g1 hfi hgw)|(go_at_call 68;refine (HSP.out X b cc g d w1 H1.out.2).mono ?_;rintro e w3 ⟨rfl,g3⟩;have HG3:=Lib.hid (H1.out.1.trans g3);clear g3 x0 x1 x2)|(go_at_call 57;refine (isNow_any now _).mono ?_;rintro e w2 ⟨rfl,rfl⟩;rw[HNW.out]))
  obtain ⟨hz,z0,z1,z2,z3,z4,zf⟩:=HZ.out w3 HG3.out
  have fz0:=zf 0
  have fz1:=zf 1
  have fz2:=zf 2
  have fz3:=zf 3
  have fz4:=zf 4
  clear zf
  go_wp2
  refine bodyPost_ret (v:= .tuple #[.agg #[.string ⟨#[]⟩, .int .i64 0, .int .i64 0, .slice none 0 0, .int .i64 0], .int .i64 7]) (by simp[results,Tryz.results36,go_sem, *]) rfl ?_
  exact ⟨rfl,(((((HGV.out.trans HG3.out).setCell (Nat.le_refl _) _).setCell (Nat.le_refl _) _).setCell (Nat.le_refl _) _).setCell (Nat.le_refl _) _).setCell (Nat.le_refl _) _⟩
 have cc4:unt<now-(sp:Int):=by omega
 go_enter Tryz.func36,Tryz.ntmps36
 go_upto_region 1 with (fail)
 rw[←HV.out]
 clear HV
 go_upto_region 8 with (first|(go_at_call 44;refine HOP.out.mono ?_;rintro e w1 ⟨g1,h1⟩;rw[HOD.out] at h1;obtain ⟨X,b,cc,g,d,rfl,hfi,hgw⟩:=h1;have H1:=Lib.hid (And.intro g1 hfi);have x0:=hfi.x0;have x1:=hfi.x1;have x2:=hfi.x2;clear g1 hfi hgw)|(go_at_call 68;refine (HSP.out X b cc g d w1 H1.out.2).mono ?_;rintro e w3 ⟨rfl,g3⟩;have HG3:=Lib.hid (H1.out.1.trans g3);clear g3 x0 x1 x2)|(go_at_call 57;refine (isNow_any now _).mono ?_;rintro e w2 ⟨rfl,rfl⟩;rw[HNW.out]))
 obtain ⟨hz,z0,z1,z2,z3,z4,zf⟩:=HZ.out w3 HG3.out
 have fz0:=zf 0
 have fz1:=zf 1
 have fz2:=zf 2
 have fz3:=zf 3
 have fz4:=zf 4
 clear zf
 go_wp2
 refine bodyPost_ret (v:= .tuple #[.agg #[.string ⟨#[]⟩, .int .i64 0, .int .i64 0, .slice none 0 0, .int .i64 0], .int .i64 7]) (by simp[results,Tryz.results36,go_sem, *]) rfl ?_
 exact ⟨rfl,(((((HGV.out.trans HG3.out).setCell (Nat.le_refl _) _).setCell (Nat.le_refl _) _).setCell (Nat.le_refl _) _).setCell (Nat.le_refl _) _).setCell (Nat.le_refl _) _⟩
end Go.Proofs.YtoncapkmaeghfaaGreat
