import Derived.Test.YtoncapkmaeghfaaGreatRunRwMem
import Derived.Laws.CopyOwn
import Derived.Test.YtoncapkmaeghfaaGreatRunVfMap
set_option linter.all false
set_option maxRecDepth 1000000
set_option maxHeartbeats 12800000
namespace Go.Proofs.YtoncapkmaeghfaaGreat
section
open Go.RowKit Go.ChangeMaps Go.Maps
def putB (l:List UInt8) (k:Nat) (d:List UInt8):List UInt8:=l.take k++(d++l.drop (k+d.length))
theorem putB_len {l:List UInt8} {k:Nat} {d:List UInt8} (h:k+d.length≤l.length):(putB l k d).length=l.length:=by
 unfold putB
 simp
 omega
theorem bys_drop (l:List UInt8) (k:Nat):bys (l.drop k)=(bys l).drop k:=by simp[bys]
theorem bys_take (l:List UInt8) (k:Nat):bys (l.take k)=(bys l).take k:=by simp[bys]
theorem splice_bys {l d:List UInt8} {k:Nat} (rest:List Value) (h:k+d.length≤l.length):splice (bys l++rest) k (bys d)=bys (putB l k d)++rest:=by
 have e:(bys l).length=l.length:=by simp[bys]
 have e2:(bys d).length=d.length:=by simp[bys]
 unfold splice putB
 rw[bys_append,bys_append,bys_drop,bys_take,List.take_append_of_le_length (by omega),List.drop_append_of_le_length (by omega),e2,List.append_assoc,List.append_assoc]
theorem own_open {w:World} {base g n d:Nat} {e:TypeId} {l:List UInt8} (h:w.ownsRow base e 1 (.slice (some ⟨g,0,none⟩) n d) n (bys l)):∃(rest:List Value) (t:TypeId),w.heap[g]?=some (.cells (bys l++rest).toArray t (0,0)):=by
 obtain ⟨h1,⟨hv,h0⟩|⟨g',cap,cur,hv,hbs,hh,h2⟩⟩:=h
 ·
  cases hv
 ·
  injection hv with ha hn hc
  injection ha with ha
  injection ha with ha _ _
  subst ha
  obtain ⟨-, -, -,ht⟩:=h2
  refine ⟨cur.toList.drop n,e,?_⟩
  rw[hh,←ht,Nat.mul_one,List.take_append_drop]
theorem wp_copy_splice {P:Program} {ops:Array Oper} {o:Oper} {a:Act} {w:World} {K:Act→World→Prop} {Q:Exit→Act→World→Prop} (hgd:o.guard=none) (d s:Operand) (dT sT:TypeId)
  (ho:o.op= .call {callee:= .builtin .copy,args:= #[d,s],argTypes:= #[dT,sT]}) (elem:TypeId) (hu:P.underlying dT=some (.slice elem)) (hsz:(P.info? elem).map (·.size)=some 1)
  (dp sp:Option Addr) (dLen dCap sLen sCap:Nat) (hd:a.eval d= .slice dp dLen dCap) (hs:a.eval s= .slice sp sLen sCap)
  (g off:Nat) (cur:List Value) (t:TypeId) (hg:w.heap[g]?=some (.cells cur.toArray t (0,0))) (cs:List Value) (hn:cs.length=Nat.min sLen dLen)
  (hpos:0<cs.length→dp=some ⟨g,off,none⟩∧∃ad,sp=some ad∧∀j v,cs[j]?=some v→w.cell? (ad.add j)=some v)
  (hfit:off+cs.length≤cur.length) (h1:∀v∈cs,v.oneCell'=true) (B:Nat) (w0:World) (hb:RowKit.Below B w0 w) (hBg:B≤g)
  (h:∀w',RowKit.Hid (w'.heap[g]?=some (.cells (splice cur off cs).toArray t (0,0)))→RowKit.Below B w0 w'→K (a.put o.dst (goInt cs.length)) w'):Oper.wp P o a w K Q:=by
 have h':=step_copy_splice (P:=P) (ops:=ops) (E:=True) (Q:=Q) (K:=K) (o:=o) (a:=a) (w:=w) hgd d s dT sT ho elem hu hsz dp sp dLen dCap sLen sCap hd hs g off cur t hg cs hn hpos hfit h1 B w0 hb hBg h
 rwa [if_pos (by simp[Region.wanted,hgd])] at h'
theorem block_rb {w:World} {g:Nat} {l:List UInt8} {rest:List Value} {t:TypeId} (h:w.heap[g]?=some (.cells (bys l++rest).toArray t (0,0))):Rb w (some ⟨g,0,none⟩) l:=by
 refine ⟨by rw[bys_length],fun _=>⟨_,rfl,(Array.getElem?_eq_some_iff.1 h).1,fun j u hu=>?_⟩⟩
 have hj:=(List.getElem?_eq_some_iff.1 hu).1
 rw[show (⟨g,0,none⟩:Addr).add j=⟨g,j,none⟩ by simp[Addr.add];omega]
 simp[World.cell?,h,List.getElem?_append_left hj,hu]
theorem info_one:(Tryz.prog.info? 5).map (·.size)=some 1:=by kernel_rfl
theorem applies_write {Y:Nat→Prop} {F P M:Nat} {R:Option Nat} {room:Int} {n:Nat} (l m:List UInt8) (o gd d:Nat) (hl:(l.length:Int)≤1073741824) (hl0:0<l.length) (hom:o+m.length≤l.length) (w:World) (h:FsM Y w F P M R room n (some l)) (hd:Rb w (some ⟨gd,0,none⟩) m) :
  Calls Tryz.prog 83 #[.pointer (some ⟨F,0,none⟩), .agg #[.int .i64 1, .string nmA, .int .i64 o, .slice (some ⟨gd,0,none⟩) m.length d]] w fun e w'=>e= .returned (.tuple #[])∧FsM Y w' F P M R room n (some (putB l o m))∧Kp (fun k=>k=M) w w':=by
 obtain ⟨V,hV⟩:∃V,V=w.alloc (.cells #[.int .i64 1, .string nmA, .int .i64 o, .slice (some ⟨gd,0,none⟩) m.length d] 115):=⟨_,rfl⟩
 have gV:Gr w V:=by rw[hV];exact Gr.alloc (Gr.refl w) _
 have hz:w.heap.size<V.heap.size:=by rw[hV];simp
 have c0:V.cell? ⟨w.heap.size,0,none⟩=some (.int .i64 1):=by rw[hV];go_simp
 have c1:V.cell? ⟨w.heap.size,1,none⟩=some (.string nmA):=by rw[hV];go_simp
 have c2:V.cell? ⟨w.heap.size,2,none⟩=some (.int .i64 o):=by rw[hV];go_simp
 have c3:V.cell? ⟨w.heap.size,3,none⟩=some (.slice (some ⟨gd,0,none⟩) m.length d):=by rw[hV];go_simp
 have hF:=h.gr gV
 have f2:=hF.f2
 have lfV:=hF.lf
 have lmV:=hF.lm
 obtain ⟨clk,born,A0,cc,hb,hcc,hrb,hq0⟩:=hF.mp
 obtain ⟨g0,rfl,hg0, -⟩:=hq0.pos hl0
 have HF:=Lib.hid (And.intro hF (And.intro (hd.gr gV) hrb))
 have HV:=Lib.hid hV
 have HG:=Lib.hid gV
 have hoi:(o:Int)≤(l.length:Int):=by omega
 clear hV gV h hd hF hq0 hcc hrb
 obtain ⟨kl,hkl⟩:=keyA
 go_enter Tryz.func83,Tryz.ntmps83
 go_upto_region 1 with (fail)
 rw[←HV.out]
 clear HV
 go_upto_region 6 with (fail)
 refine wp_region_Z 8 (Gr V) (by kernel_rfl) ?_
 have hS0:Gr V V.drew:=Gr.drew (Gr.refl _)
 obtain ⟨W0,hW0⟩:∃W0,W0=V.drew:=⟨_,rfl⟩
 rw[←hW0] at hS0 ⊢
 clear hW0
 refine zu 0 rfl hS0 (fun W hS=>by go_simp;rfl) ?_
 refine zu 1 rfl hS0 (fun W hS=>by go_simp;rfl) ?_
 refine zu 2 rfl hS0 (fun W hS=>by go_simp;rfl) ?_
 refine zu 3 rfl hS0 (fun W hS=>by have s2:=(Below.cell hS (p:=⟨F,2,none⟩) lfV).trans f2;go_simp;rfl) ?_
 refine zu 4 rfl hS0 (fun W hS=>by go_simp;rfl) ?_
 refine zu 5 rfl hS0 (fun W hS=>by have s1:=(Below.cell hS (p:=⟨w.heap.size,1,none⟩) hz).trans c1;go_simp;rfl) ?_
 refine wpAnyZ_take (i:=6) (v:=?v7) rfl (by kernel_rfl) (fun _ _ _ h=>h) (by rfl) (fun W hS=>?h7) hS0 ?r7
 case h7=>
  have hl:=look_one (P:=Tryz.prog) (w:=W) Tryz.underlying74 keyedS hkl ((Below.block hS M lmV).trans hb) false
  simp only[Bool.false_eq_true,if_false] at hl
  go_simp
  rfl
 simp only[Act.put,List.getElem_toArray,List.getElem_cons_succ,List.getElem_cons_zero,List.setIfInBounds_toArray,List.set_cons_zero,List.set_cons_succ]
 refine wpAnyZ_ready (rs:=[7]) (by kernel_rfl) (by simp) ?_
 refine AllReadyZ.cons (i:=7) rfl (by kernel_rfl) ?zx1 AllReadyZ.nil
 intro K hK
 simp only[List.getElem_toArray,List.getElem_cons_succ,List.getElem_cons_zero]
 go_simp
 refine (clone_any ⟨g0,0,none⟩ cc l (by omega) _ (HF.out.2.2.gr hS0)).mono ?_;rintro x W1 ⟨g,e2,rfl,he,ho,g1⟩
 have HB0:Hid (Gr V W1):=Lib.hid (hS0.trans g1)
 have HZ0:=Lib.hid (Nat.le_trans hS0.size (Nat.le_of_eq rfl))
 have hge:=(ho.lt g (by rfl))
 have HGB:Hid (V.heap.size≤g):=Lib.hid (Nat.le_trans hS0.size hge.1)
 obtain ⟨rest,T,hgb⟩:=own_open ho
 clear ho g1 hge
 go_wp2_with fail
 refine hK.out _ _ (fun hnz=>?zs2) (fun _=>?zr3)
 case zs2=>exact HB0.out
 clear hK K
 try (simp only[Pu,List.getElem_toArray,List.getElem_cons_succ,List.getElem_cons_zero])
 refine wpAnyZ_ready (rs:=[8]) (by kernel_rfl) (by simp) ?_
 refine AllReadyZ.cons (i:=8) rfl (by kernel_rfl) ?zx4 AllReadyZ.nil
 intro K hK
 simp only[List.getElem_toArray,List.getElem_cons_succ,List.getElem_cons_zero]
 go_simp
 refine hK.out _ _ (fun hnz=>?zs5) (fun _=>?zr6)
 case zs5=>exact absurd rfl hnz
 clear hK K
 try (simp only[Pu,List.getElem_toArray,List.getElem_cons_succ,List.getElem_cons_zero])
 refine wpAnyZ_done (by kernel_rfl) ?_ _
 go_upto_region 7 with (fail)
 have hoe:(o:Int)≤(e2:Int):=by omega
 have hoe2:o≤e2:=by omega
 have hsub:(l.length:Int)-(o:Int)=((l.length-o:Nat):Int):=by omega
 by_cases hcap:e2=o
 ·
  have HPOS:Hid (0<(bys m).length→False):=Lib.hid (fun h=>by rw[bys_length] at h;omega)
  refine wp_region_Z 6 (Gr V) (by kernel_rfl) ?_
  obtain ⟨W2,hW2⟩:∃W2,W2=W1.drew:=⟨_,rfl⟩
  have hS1:Gr V W2:=by rw[hW2];exact Gr.drew HB0.out
  have hgb1:W2.heap[g]?=some (.cells (bys l++rest).toArray T (0,0)):=by rw[hW2];exact hgb
  rw[←hW2]
  clear hW2
  refine zu 0 rfl hS1 (fun W hS=>by go_simp;rfl) ?_
  refine zu 1 rfl hS1 (fun W hS=>by go_simp;rfl) ?_
  refine zu 2 rfl hS1 (fun W hS=>by have s2:=(Below.cell hS (p:=⟨w.heap.size,2,none⟩) hz).trans c2;go_simp;rfl) ?_
  refine zu 3 rfl hS1 (fun W hS=>by go_simp;rfl) ?_
  refine zu 4 rfl hS1 (fun W hS=>by go_simp;rfl) ?_
  refine zu 5 rfl hS1 (fun W hS=>by have s3:=(Below.cell hS (p:=⟨w.heap.size,3,none⟩) hz).trans c3;go_simp;rfl) ?_
  refine wpAnyZ_ready (rs:=[6]) (by kernel_rfl) (by simp) ?_
  refine AllReadyZ.cons (i:=6) rfl (by kernel_rfl) ?zx7 AllReadyZ.nil
  intro K hK
  simp only[List.getElem_toArray,List.getElem_cons_succ,List.getElem_cons_zero]
  refine wp_copy_splice (ops:= #[]) rfl (.tmp 37) (.tmp 39) 49 49 rfl 5 Tryz.underlying49 info_one _ (some ⟨gd,0,none⟩) (l.length-o) _ m.length d rfl rfl g o (bys l++rest) T hgb1 (bys m) (by rw[bys_length,Nat.mul_one];exact (Nat.min_eq_left (by omega)).symm) (fun h=>(HPOS.out h).elim) (by rw[List.length_append,bys_length,bys_length];omega) (bys_one _) V.heap.size V hS1 HGB.out ?_
  intro W3 hg3 hb3
  have hg4:W3.heap[g]?=some (.cells (bys (putB l o m)++rest).toArray T (0,0)):=by rw[←splice_bys rest hom];exact hg3
  have hS3:Gr V W3:=hb3
  have HG4:=Lib.hid hg4
  clear hg3 hb3 hg4 hgb1 hS1
  refine hK.out _ _ (fun hnz=>?zs8) (fun _=>?zr9)
  case zs8=>exact absurd rfl hnz
  clear hK K
  try (simp only[Pu,List.getElem_toArray,List.getElem_cons_succ,List.getElem_cons_zero])
  refine wpAnyZ_done (by kernel_rfl) ?_ _
  go_upto_region 8 with (fail)
  refine wp_region_Z 7 (Gr V) (by kernel_rfl) ?_
  obtain ⟨W4,hW4⟩:∃W4,W4=W3.drew:=⟨_,rfl⟩
  have hS2:Gr V W4:=by rw[hW4];exact Gr.drew hS3
  have hg5:W4.heap[g]?=some (.cells (bys (putB l o m)++rest).toArray T (0,0)):=by rw[hW4];exact HG4.out
  rw[←hW4]
  clear hW4 hS3
  have HG5:=Lib.hid hg5
  clear hg5
  refine zu 0 rfl hS2 (fun W hS=>by go_simp;rfl) ?_
  refine zu 1 rfl hS2 (fun W hS=>by go_simp;rfl) ?_
  refine zu 2 rfl hS2 (fun W hS=>by go_simp;rfl) ?_
  refine zu 3 rfl hS2 (fun W hS=>by have s2:=(Below.cell hS (p:=⟨F,2,none⟩) lfV).trans f2;go_simp;rfl) ?_
  refine zu 4 rfl hS2 (fun W hS=>by go_simp;rfl) ?_
  refine zu 5 rfl hS2 (fun W hS=>by have s1:=(Below.cell hS (p:=⟨w.heap.size,1,none⟩) hz).trans c1;go_simp;rfl) ?_
  refine zu 6 rfl hS2 (fun W hS=>by go_simp;rfl) ?_
  have hb4:=(Below.block hS2 M lmV).trans hb
  have hu:=upd_one (P:=Tryz.prog) (w:=W4) Tryz.underlying74 keyedS hkl hb4 (.slice (some ⟨g,0,none⟩) l.length o)
  have hpl:=putB_len hom
  have hup:=(HF.out.1.gr hS2).upd (l:=putB l o m) (g:=g) (c:=o) (by rw[hpl];omega) (block_rb HG5.out) (Array.getElem?_eq_some_iff.1 HG5.out).1 ⟨fun h=>by have:=HF.out.1.lp;have:=HGB.out;omega,fun h=>by have:=HF.out.1.lm;have:=HGB.out;omega,fun h=>by
   obtain ⟨v,xs,v1,v2,v3⟩:=HF.out.1.p0
   have:=(v3.lt g (by rw[v2];exact h)).2
   have:=HGB.out
   omega,fun h=>by have:=HF.out.1.yl g h;have:=HGB.out;omega⟩ clk born
  rw[hpl] at hup
  have HU:=Lib.hid hup
  have HS2:=Lib.hid hS2
  clear hup hpl hb4
  refine wpAnyZ_ready (rs:=[7]) (by kernel_rfl) (by simp) ?_
  refine AllReadyZ.cons (i:=7) rfl (by kernel_rfl) ?zx10 AllReadyZ.nil
  intro K hK
  simp only[List.getElem_toArray,List.getElem_cons_succ,List.getElem_cons_zero]
  go_simp
  refine hK.out _ _ (fun hnz=>?zs11) (fun _=>?zr12)
  case zs11=>exact absurd rfl hnz
  clear hK K
  try (simp only[Pu,List.getElem_toArray,List.getElem_cons_succ,List.getElem_cons_zero])
  refine wpAnyZ_done (by kernel_rfl) ?_ _
  go_wp2
  go_end0
  exact ⟨rfl,HU.out.1,(Kp.of_gr _ (HG.out.trans HS2.out)).trans HU.out.2 (fun i _ h=>h)⟩
 ·
  have hcap2:¬e2≤o:=by omega
  have hcap3:o<e2:=by omega
  have HPOS:Hid (∀j v,(bys m)[j]?=some v→V.cell? ((⟨gd,0,none⟩:Addr).add j)=some v):=Lib.hid (fun j v hv=>by
   have hj:j<m.length:=by have:=(List.getElem?_eq_some_iff.1 hv).1;simpa [bys] using this
   obtain ⟨ad,e, -,hcl⟩:=HF.out.2.1.2 (by omega)
   injection e with e
   subst e
   exact hcl j v hv)
  have HGD:Hid (0<m.length→gd<V.heap.size):=Lib.hid (fun hp=>by obtain ⟨ad,e,hb, -⟩:=HF.out.2.1.2 hp;injection e with e;subst e;exact hb)
  refine wp_region_Z 6 (Gr V) (by kernel_rfl) ?_
  obtain ⟨W2,hW2⟩:∃W2,W2=W1.drew:=⟨_,rfl⟩
  have hS1:Gr V W2:=by rw[hW2];exact Gr.drew HB0.out
  have hgb1:W2.heap[g]?=some (.cells (bys l++rest).toArray T (0,0)):=by rw[hW2];exact hgb
  rw[←hW2]
  clear hW2
  refine zu 0 rfl hS1 (fun W hS=>by go_simp;rfl) ?_
  refine zu 1 rfl hS1 (fun W hS=>by go_simp;rfl) ?_
  refine zu 2 rfl hS1 (fun W hS=>by have s2:=(Below.cell hS (p:=⟨w.heap.size,2,none⟩) hz).trans c2;go_simp;rfl) ?_
  refine zu 3 rfl hS1 (fun W hS=>by go_simp;rfl) ?_
  refine zu 4 rfl hS1 (fun W hS=>by go_simp;rfl) ?_
  refine zu 5 rfl hS1 (fun W hS=>by have s3:=(Below.cell hS (p:=⟨w.heap.size,3,none⟩) hz).trans c3;go_simp;rfl) ?_
  refine wpAnyZ_ready (rs:=[6]) (by kernel_rfl) (by simp) ?_
  refine AllReadyZ.cons (i:=6) rfl (by kernel_rfl) ?zx13 AllReadyZ.nil
  intro K hK
  simp only[List.getElem_toArray,List.getElem_cons_succ,List.getElem_cons_zero]
  refine wp_copy_splice (ops:= #[]) rfl (.tmp 37) (.tmp 39) 49 49 rfl 5 Tryz.underlying49 info_one _ (some ⟨gd,0,none⟩) (l.length-o) _ m.length d rfl rfl g o (bys l++rest) T hgb1 (bys m) (by rw[bys_length,Nat.mul_one];exact (Nat.min_eq_left (by omega)).symm) (fun h=>⟨rfl,⟨gd,0,none⟩,rfl,fun j v hv=>by rw[bys_length] at h;exact (Below.cell hS1 (p:=(⟨gd,0,none⟩:Addr).add j) (by rw[add_blk];exact HGD.out (by omega))).trans (HPOS.out j v hv)⟩) (by rw[List.length_append,bys_length,bys_length];omega) (bys_one _) V.heap.size V hS1 HGB.out ?_
  intro W3 hg3 hb3
  have hg4:W3.heap[g]?=some (.cells (bys (putB l o m)++rest).toArray T (0,0)):=by rw[←splice_bys rest hom];exact hg3
  have hS3:Gr V W3:=hb3
  have HG4:=Lib.hid hg4
  clear hg3 hb3 hg4 hgb1 hS1
  refine hK.out _ _ (fun hnz=>?zs14) (fun _=>?zr15)
  case zs14=>exact absurd rfl hnz
  clear hK K
  try (simp only[Pu,List.getElem_toArray,List.getElem_cons_succ,List.getElem_cons_zero])
  refine wpAnyZ_done (by kernel_rfl) ?_ _
  go_upto_region 8 with (fail)
  refine wp_region_Z 7 (Gr V) (by kernel_rfl) ?_
  obtain ⟨W4,hW4⟩:∃W4,W4=W3.drew:=⟨_,rfl⟩
  have hS2:Gr V W4:=by rw[hW4];exact Gr.drew hS3
  have hg5:W4.heap[g]?=some (.cells (bys (putB l o m)++rest).toArray T (0,0)):=by rw[hW4];exact HG4.out
  rw[←hW4]
  clear hW4 hS3
  have HG5:=Lib.hid hg5
  clear hg5
  refine zu 0 rfl hS2 (fun W hS=>by go_simp;rfl) ?_
  refine zu 1 rfl hS2 (fun W hS=>by go_simp;rfl) ?_
  refine zu 2 rfl hS2 (fun W hS=>by go_simp;rfl) ?_
  refine zu 3 rfl hS2 (fun W hS=>by have s2:=(Below.cell hS (p:=⟨F,2,none⟩) lfV).trans f2;go_simp;rfl) ?_
  refine zu 4 rfl hS2 (fun W hS=>by go_simp;rfl) ?_
  refine zu 5 rfl hS2 (fun W hS=>by have s1:=(Below.cell hS (p:=⟨w.heap.size,1,none⟩) hz).trans c1;go_simp;rfl) ?_
  refine zu 6 rfl hS2 (fun W hS=>by go_simp;rfl) ?_
  have hb4:=(Below.block hS2 M lmV).trans hb
  have hu:=upd_one (P:=Tryz.prog) (w:=W4) Tryz.underlying74 keyedS hkl hb4 (.slice (some ⟨g,0,none⟩) l.length e2)
  have hpl:=putB_len hom
  have hup:=(HF.out.1.gr hS2).upd (l:=putB l o m) (g:=g) (c:=e2) (by rw[hpl];omega) (block_rb HG5.out) (Array.getElem?_eq_some_iff.1 HG5.out).1 ⟨fun h=>by have:=HF.out.1.lp;have:=HGB.out;omega,fun h=>by have:=HF.out.1.lm;have:=HGB.out;omega,fun h=>by
   obtain ⟨v,xs,v1,v2,v3⟩:=HF.out.1.p0
   have:=(v3.lt g (by rw[v2];exact h)).2
   have:=HGB.out
   omega,fun h=>by have:=HF.out.1.yl g h;have:=HGB.out;omega⟩ clk born
  rw[hpl] at hup
  have HU:=Lib.hid hup
  have HS2:=Lib.hid hS2
  clear hup hpl hb4
  refine wpAnyZ_ready (rs:=[7]) (by kernel_rfl) (by simp) ?_
  refine AllReadyZ.cons (i:=7) rfl (by kernel_rfl) ?zx16 AllReadyZ.nil
  intro K hK
  simp only[List.getElem_toArray,List.getElem_cons_succ,List.getElem_cons_zero]
  go_simp
  refine hK.out _ _ (fun hnz=>?zs17) (fun _=>?zr18)
  case zs17=>exact absurd rfl hnz
  clear hK K
  try (simp only[Pu,List.getElem_toArray,List.getElem_cons_succ,List.getElem_cons_zero])
  refine wpAnyZ_done (by kernel_rfl) ?_ _
  go_wp2
  go_end0
  exact ⟨rfl,HU.out.1,(Kp.of_gr _ (HG.out.trans HS2.out)).trans HU.out.2 (fun i _ h=>h)⟩
end
open Go.RowKit
theorem info_file:(Tryz.prog.info? 128).map (fun i=>(i.zero,i.size,i.bytes))=some (some (.agg #[.string ByteArray.empty, .slice none 0 0]),2,40):=by kernel_rfl
theorem own_some {w:World} {base n:Nat} {e:TypeId} {size:Nat} {v:Value} {xs:List Value} (h:w.ownsRow base e size v n xs) (hv:v.ownBlock≠none):∃g c,v= .slice (some ⟨g,0,none⟩) n c∧base≤g:=by
 obtain ⟨h1,⟨hv2,h0⟩|⟨g',cap,cur,hv2,hb, -⟩⟩:=h
 ·
  rw[hv2] at hv;exact absurd rfl hv
 ·
  exact ⟨g',cap,hv2,hb⟩
def RetFl (A:Option Addr) (m:List UInt8) (w:World) (e:Ending) (w':World):Prop:=∃v',e= .returned v'∧FlR w' v' (fun g=>w.heap.size≤g∨∃ad,A=some ad∧ad.block=g) (some m)∧Gr w w'
theorem xdoes_new (A:Option Addr) (d:Nat) (at_:Int) (m:List UInt8) (hm:m.length≤d) (c:Nat) (w:World) (hr:Rb w A m) (hA:∀ad,A=some ad→ad.block<w.heap.size) :
  Calls Tryz.prog 85 #[.slice none 0 c, .agg #[.int .i64 1, .string nmA, .int .i64 at_, .slice A m.length d]] w (RetFl A m w):=by
 obtain ⟨i0,hi0,hy0,hy1,hy2⟩:=info_parts info_file
 obtain ⟨V,hV⟩:∃V,V=w.alloc (.cells #[.int .i64 1, .string nmA, .int .i64 at_, .slice A m.length d] 120):=⟨_,rfl⟩
 have gV:Gr w V:=by rw[hV];exact Gr.alloc (Gr.refl w) _
 have hz:w.heap.size<V.heap.size:=by rw[hV];simp
 have c0:V.cell? ⟨w.heap.size,0,none⟩=some (.int .i64 1):=by rw[hV];go_simp
 have c1:V.cell? ⟨w.heap.size,1,none⟩=some (.string nmA):=by rw[hV];go_simp
 have c2:V.cell? ⟨w.heap.size,2,none⟩=some (.int .i64 at_):=by rw[hV];go_simp
 have c3:V.cell? ⟨w.heap.size,3,none⟩=some (.slice A m.length d):=by rw[hV];go_simp
 have HV:=Lib.hid hV
 have HG:=Lib.hid gV
 have HR:=Lib.hid (And.intro hr hA)
 clear hV gV hr hA
 go_enter Tryz.func85,Tryz.ntmps85
 go_upto_region 1 with (fail)
 rw[←HV.out]
 clear HV
 go_upto_region 13 with (go_at_call 53;refine (xfind_none _ _).mono ?_;rintro e w2 ⟨rfl,rfl⟩)
 go_loopw [7,6] (fun k m wr=>k= .int .i64 0∧m= .slice none 0 0∧V=wr) (fun _ _ _=>0)
 case atStart=>exact ⟨rfl,rfl,rfl⟩
 case round=>
  obtain ⟨rfl,rfl,rfl⟩:=hrel
  go_upto_region 14 with (fail)
  have own0:V.ownsRow V.heap.size 128 2 (.slice none 0 0) 0 []:=World.ownsRow_nil _ _ _ _
  have hrx:Rd (V.alloc (.cells #[.string nmA, .slice A m.length d] 128)) 2 (some ⟨V.heap.size,0,none⟩) 1 [.string nmA, .slice A m.length d]:=Rd.newU (W:=V) (n:=1) (size:=2) rfl 128 [.string nmA, .slice A m.length d] rfl
  have own1:=own_grU own0 (Gr.alloc (Gr.refl V) (.cells #[.string nmA, .slice A m.length d] 128))
  go_wp2_with (at_builtin;refine wpList_append_rd rfl (.tmp 60) (.tmp 66) 80 rfl V.heap.size 128 i0 _ 2 40 Tryz.underlying80 hi0 hy0 hy1 hy2 rfl (by decide) _ 0 _ rfl own1 (some ⟨V.heap.size,0,none⟩) 1 _ [.string nmA, .slice A m.length d] rfl hrx (by intro u hu;simp at hu;rcases hu with rfl|rfl<;>rfl) (by unfold maxLen;omega) (by omega) (by first|(simp;done)|(simp;omega)) ?_;intro v9 w9 own9 hgr9 hob9;have H9:=Lib.hid (And.intro own9 hgr9);have hvo9:=own_form own9;clear own9 hgr9 hob9)
  obtain ⟨A9,c9,hv9⟩:=hvo9
  subst hv9
  go_ret
  obtain ⟨own9,hgr9⟩:=H9.out
  have hgw:Gr w w9:=(HG.out.trans (Gr.alloc (Gr.refl V) (.cells #[.string nmA, .slice A m.length d] 128))).grown hgr9 (fun k e=>by have e2:(none:Option Nat)=some k:=e;cases e2)
  rw[Nat.zero_add,List.nil_append] at own9
  obtain ⟨q,hq,hq1,hq2,hq3⟩:=own_blockU own9 (by decide)
  subst hq
  exact ⟨_,by first|rfl|(rw[Nat.zero_add]),⟨q,c9,A,d,by first|rfl|(rw[Nat.zero_add]),own_capU own9,hq2, .inl (Nat.le_trans HG.out.size hq1),hq3 0 _ rfl,hq3 1 _ rfl,hm,HR.out.1.gr hgw,fun ad e=>⟨Nat.lt_of_lt_of_le (HR.out.2 ad e) hgw.size, .inr ⟨ad,e,rfl⟩⟩⟩,hgw⟩
theorem xdoes_put (b c:Nat) (G:Option Addr) (dd:Nat) (l:List UInt8) (A:Option Addr) (d o:Nat) (m:List UInt8) (hl:(l.length:Int)≤1073741824) (hom:o+m.length≤l.length) (w:World) (hb:b<w.heap.size) (h0:w.cell? ⟨b,0,none⟩=some (.string nmA)) (h1:w.cell? ⟨b,1,none⟩=some (.slice G l.length dd)) (hrl:Rb w G l) (hr:Rb w A m) :
  Calls Tryz.prog 85 #[.slice (some ⟨b,0,none⟩) 1 c, .agg #[.int .i64 2, .string nmA, .int .i64 o, .slice A m.length d]] w fun e w'=>∃v',e= .returned v'∧FlR w' v' (fun g=>w.heap.size≤g) (some (putB l o m))∧Gr w w':=by
 obtain ⟨i0,hi0,hy0,hy1,hy2⟩:=info_parts info_file
 obtain ⟨j0,hj0,hk0,hk1,hk2⟩:=info_parts info_u8R
 obtain ⟨V,hV⟩:∃V,V=w.alloc (.cells #[.int .i64 2, .string nmA, .int .i64 o, .slice A m.length d] 120):=⟨_,rfl⟩
 have gV:Gr w V:=by rw[hV];exact Gr.alloc (Gr.refl w) _
 have hz:w.heap.size<V.heap.size:=by rw[hV];simp
 have c0:V.cell? ⟨w.heap.size,0,none⟩=some (.int .i64 2):=by rw[hV];go_simp
 have c1:V.cell? ⟨w.heap.size,1,none⟩=some (.string nmA):=by rw[hV];go_simp
 have c2:V.cell? ⟨w.heap.size,2,none⟩=some (.int .i64 o):=by rw[hV];go_simp
 have c3:V.cell? ⟨w.heap.size,3,none⟩=some (.slice A m.length d):=by rw[hV];go_simp
 have HV:=Lib.hid hV
 have HG:=Lib.hid gV
 have bV:=Nat.lt_of_lt_of_le hb gV.size
 have f0:=(Below.cell gV (p:=⟨b,0,none⟩) hb).trans h0
 have f1:=(Below.cell gV (p:=⟨b,1,none⟩) hb).trans h1
 have HR:=Lib.hid (hr.gr gV)
 have HL:=Lib.hid (hrl.gr gV)
 have hoi:(o:Int)≤(l.length:Int):=by omega
 clear hV gV hr hrl h0 h1
 go_enter Tryz.func85,Tryz.ntmps85
 go_upto_region 1 with (fail)
 rw[←HV.out]
 clear HV
 go_upto_region 3 with (go_at_call 53;refine (xfind_some b c _ bV f0).mono ?_;rintro e w2 ⟨rfl,rfl⟩)
 go_wp2
 go_loopw [7,6] (fun k u wr=>(k= .int .i64 0∧u= .slice none 0 0∧V=wr)∨(k= .int .i64 1∧FlR wr u (fun g=>w.heap.size≤g) (some (putB l o m))∧Gr V wr)) (fun k _ _=>1-(intOf k).toNat)
 case atStart=>exact .inl ⟨rfl,rfl,rfl⟩
 case round=>
  rcases hrel with ⟨rfl,rfl,rfl⟩|⟨rfl,hfl,hgr⟩
  ·
   go_upto_region 7 with (fail)
   obtain ⟨V1,hV1⟩:∃V1,V1=V.alloc (.cells #[.string nmA, .slice G l.length dd] 128):=⟨_,rfl⟩
   have g1:Gr V V1:=by rw[hV1];exact Gr.alloc (Gr.refl V) _
   have x0:V1.cell? ⟨V.heap.size,0,none⟩=some (.string nmA):=by rw[hV1];go_simp
   have x1:V1.cell? ⟨V.heap.size,1,none⟩=some (.slice G l.length dd):=by rw[hV1];go_simp
   have xf:V1.frozen? ⟨V.heap.size,1,none⟩=false:=by rw[hV1];go_simp
   have hx1:V.heap.size<V1.heap.size:=by rw[hV1];simp
   have e0c:=(Below.cell g1 (p:=⟨w.heap.size,0,none⟩) hz).trans c0
   have e2c:=(Below.cell g1 (p:=⟨w.heap.size,2,none⟩) hz).trans c2
   have e3c:=(Below.cell g1 (p:=⟨w.heap.size,3,none⟩) hz).trans c3
   have hz1:=Nat.lt_of_lt_of_le hz g1.size
   have HVV:=Lib.hid g1
   have hrs:Rd V1 1 G l.length (bys l):=HL.out.gr g1
   rw[←hV1]
   clear hV1 g1 c0 c1 c2 c3 f0 f1
   go_upto_region 8 with (fail)
   have own0:(V1.alloc (.cells #[] 5)).ownsRow V1.heap.size 5 1 (.slice (some ⟨V1.heap.size,0,none⟩) 0 0) 0 []:=World.ownsRow_made V1 #[] 0 (Nat.le_refl _) (by decide) rfl
   have hrs2:=Rd.gr hrs (Gr.alloc (Gr.refl V1) (.cells #[] 5))
   go_upto_region 9 with (at_builtin;refine wpList_append_rd rfl (.tmp 32) (.tmp 34) 49 rfl V1.heap.size 5 j0 _ 1 1 Tryz.underlying49 hj0 hk0 hk1 hk2 rfl (by decide) _ 0 _ rfl own0 G l.length _ (bys l) rfl hrs2 (bys_one _) (by unfold maxLen;omega) (by omega) (by simp) ?_;intro v9 W1 own9 hgr9 hob9;rw[Nat.zero_add,List.nil_append] at own9;have H8:=Lib.hid (And.intro own9 (And.intro hgr9 hob9));have hvo9:=own_some own9 (by rcases hob9 with e|e<;>rw[e]<;>exact fun e=>by cases e);clear own9 hgr9 hob9)
   obtain ⟨g,e2,hv9,hge⟩:=hvo9
   subst hv9
   have HB0:Hid (Gr V1 W1):=Lib.hid ((Gr.alloc (Gr.refl V1) (.cells #[] 5)).grown H8.out.2.1 (fun k e=>by have e2:some V1.heap.size=some k:=e;injection e2 with e2;omega))
   have HGB:Hid (V1.heap.size≤g):=Lib.hid hge
   have HGB2:Hid (g<W1.heap.size):=Lib.hid (H8.out.1.lt g rfl).2
   have he2:=own_capU H8.out.1
   obtain ⟨rest,T,hgb⟩:=own_open H8.out.1
   clear own0 hrs hrs2 H8 hge
   have hoe:(o:Int)≤(e2:Int):=by omega
   have hoe2:o≤e2:=by omega
   have hsub:(l.length:Int)-(o:Int)=((l.length-o:Nat):Int):=by omega
   by_cases hcap:e2=o
   ·
    have HPOS:Hid (0<(bys m).length→False):=Lib.hid (fun h=>by rw[bys_length] at h;omega)
    refine wp_region_Z 6 (Gr V1) (by kernel_rfl) ?_
    obtain ⟨W2,hW2⟩:∃W2,W2=W1.drew:=⟨_,rfl⟩
    have hS1:Gr V1 W2:=by rw[hW2];exact Gr.drew HB0.out
    have hgb1:W2.heap[g]?=some (.cells (bys l++rest).toArray T (0,0)):=by rw[hW2];exact hgb
    rw[←hW2]
    clear hW2
    refine zu 0 rfl hS1 (fun W hS=>by go_simp;rfl) ?_
    refine zu 1 rfl hS1 (fun W hS=>by go_simp;rfl) ?_
    refine zu 2 rfl hS1 (fun W hS=>by have s2:=(Below.cell hS (p:=⟨w.heap.size,2,none⟩) hz1).trans e2c;go_simp;rfl) ?_
    refine zu 3 rfl hS1 (fun W hS=>by go_simp;rfl) ?_
    refine zu 4 rfl hS1 (fun W hS=>by go_simp;rfl) ?_
    refine zu 5 rfl hS1 (fun W hS=>by have s3:=(Below.cell hS (p:=⟨w.heap.size,3,none⟩) hz1).trans e3c;go_simp;rfl) ?_
    refine wpAnyZ_ready (rs:=[6]) (by kernel_rfl) (by simp) ?_
    refine AllReadyZ.cons (i:=6) rfl (by kernel_rfl) ?zx7 AllReadyZ.nil
    intro K hK
    simp only[List.getElem_toArray,List.getElem_cons_succ,List.getElem_cons_zero]
    refine wp_copy_splice (ops:= #[]) rfl (.tmp 39) (.tmp 41) 49 49 rfl 5 Tryz.underlying49 info_one _ A (l.length-o) _ m.length d rfl rfl g o (bys l++rest) T hgb1 (bys m) (by rw[bys_length,Nat.mul_one];exact (Nat.min_eq_left (by omega)).symm) (fun h=>(HPOS.out h).elim) (by rw[List.length_append,bys_length,bys_length];omega) (bys_one _) V1.heap.size V1 hS1 HGB.out ?_
    intro W3 hg3 hb3
    have hg4:W3.heap[g]?=some (.cells (bys (putB l o m)++rest).toArray T (0,0)):=by rw[←splice_bys rest hom];exact hg3.out
    have hS3:Gr V1 W3:=hb3
    have HG4:=Lib.hid hg4
    have HS3:=Lib.hid hS3
    clear hg3 hb3 hg4 hgb1 hS1
    refine hK.out _ _ (fun hnz=>?zs8) (fun _=>?zr8)
    case zs8=>exact absurd rfl hnz
    clear hK K
    try (simp only[Pu,List.getElem_toArray,List.getElem_cons_succ,List.getElem_cons_zero])
    refine wpAnyZ_done (by kernel_rfl) ?_ _
    have q0:=(Below.cell hS3 (p:=⟨V.heap.size,0,none⟩) hx1).trans x0
    have q1:=(Below.cell hS3 (p:=⟨V.heap.size,1,none⟩) hx1).trans x1
    have qf:=(Below.frozen hS3 (p:=⟨V.heap.size,1,none⟩) hx1).trans xf
    have k0:=(Below.cell hS3 (p:=⟨w.heap.size,0,none⟩) hz1).trans e0c
    have hqz:=Nat.lt_of_lt_of_le hx1 hS3.size
    have hgz:=(Array.getElem?_eq_some_iff.1 HG4.out).1
    have hwz:=Nat.lt_of_lt_of_le hz1 hS3.size
    clear hS3
    obtain ⟨W4,hW4⟩:∃W4,W4=W3.setCell ⟨V.heap.size,1,none⟩ (.slice (some ⟨g,0,none⟩) l.length o):=⟨_,rfl⟩
    have HW4:=Lib.hid hW4
    have y0:W4.cell? ⟨V.heap.size,0,none⟩=some (.string nmA):=by rw[hW4];exact (World.cell?_setCell_other _ ⟨V.heap.size,1,none⟩ ⟨V.heap.size,0,none⟩ _ (by first|(simp;done)|(simp;omega))).trans q0
    have y1:W4.cell? ⟨V.heap.size,1,none⟩=some (.slice (some ⟨g,0,none⟩) l.length o):=by rw[hW4];exact World.cell?_setCell_same' _ _ _ (by rw[q1];rfl)
    have y2:W4.cell? ⟨w.heap.size,0,none⟩=some (.int .i64 2):=by rw[hW4];exact (World.cell?_setCell_other _ ⟨V.heap.size,1,none⟩ ⟨w.heap.size,0,none⟩ _ (by first|(simp;done)|(simp;omega))).trans k0
    have HZ4:Hid (W4.heap.size=W3.heap.size):=Lib.hid (by rw[hW4];simp)
    have hq4:V.heap.size<W4.heap.size:=by rw[HZ4.out];exact hqz
    have hw4:w.heap.size<W4.heap.size:=by rw[HZ4.out];exact hwz
    have hg5:W4.heap[g]?=some (.cells (bys (putB l o m)++rest).toArray T (0,0)):=by rw[hW4];exact (Below.heap_setCell W3 ⟨V.heap.size,1,none⟩ _ g (by have:=HGB.out;simp only;omega)).trans HG4.out
    have HG5:=Lib.hid hg5
    have hS4:Gr V W4:=by rw[hW4];exact Gr.setCell (HVV.out.trans HS3.out) (Nat.le_refl _) _
    have HS4:=Lib.hid hS4
    clear hW4 hg5 hS4 k0
    go_upto_region 11 with (fail)
    rw[←HW4.out]
    clear q0 q1 qf
    go_upto_region 12 with (fail)
    have own0:W4.ownsRow V.heap.size 128 2 (.slice none 0 0) 0 []:=World.ownsRow_nil _ _ _ _
    have hrx:Rd (W4.alloc (.cells #[.string nmA, .slice (some ⟨g,0,none⟩) l.length o] 128)) 2 (some ⟨W4.heap.size,0,none⟩) 1 [.string nmA, .slice (some ⟨g,0,none⟩) l.length o]:=Rd.newU (W:=W4) (n:=1) (size:=2) rfl 128 [.string nmA, .slice (some ⟨g,0,none⟩) l.length o] rfl
    have own1:=own_grU own0 (Gr.alloc (Gr.refl W4) (.cells #[.string nmA, .slice (some ⟨g,0,none⟩) l.length o] 128))
    go_wp2_with (at_builtin;refine wpList_append_rd rfl (.tmp 53) (.tmp 55) 80 rfl V.heap.size 128 i0 _ 2 40 Tryz.underlying80 hi0 hy0 hy1 hy2 rfl (by decide) _ 0 _ rfl own1 (some ⟨W4.heap.size,0,none⟩) 1 _ [.string nmA, .slice (some ⟨g,0,none⟩) l.length o] rfl hrx (by intro u hu;simp at hu;rcases hu with rfl|rfl<;>rfl) (by unfold maxLen;omega) (by omega) (by first|(simp;done)|(simp;omega)) ?_;intro v9 w9 own9 hgr9 hob9;have H9:=Lib.hid (And.intro own9 hgr9);have hvo9:=own_form own9;clear own9 hgr9 hob9)
    obtain ⟨A9,c9,hv9⟩:=hvo9
    subst hv9
    go_roundw
    case rel=>
     obtain ⟨own9,hgr9⟩:=H9.out
     have hga:Gr W4 w9:=(Gr.alloc (Gr.refl W4) (.cells #[.string nmA, .slice (some ⟨g,0,none⟩) l.length o] 128)).grown hgr9 (fun k e=>by have e2:(none:Option Nat)=some k:=e;cases e2)
     rw[Nat.zero_add,List.nil_append] at own9
     obtain ⟨q,hq,hq1,hq2,hq3⟩:=own_blockU own9 (by decide)
     subst hq
     have hpl:=putB_len hom
     refine .inr ⟨by go_num,⟨q,c9,some ⟨g,0,none⟩,o,by first|rfl|(rw[Nat.zero_add]),own_capU own9,hq2,Nat.le_trans HG.out.size hq1,hq3 0 _ rfl,(hq3 1 _ rfl).trans (by rw[hpl]),by rw[hpl];omega,(block_rb HG5.out).gr hga,fun ad e=>?_⟩,HS4.out.trans hga⟩
     injection e with e
     subst e
     exact ⟨Nat.lt_of_lt_of_le (by rw[HZ4.out];exact hgz) hga.size,by have:=HGB.out;have:=HG.out.size;simp only;omega⟩
    case measure=>simp[intOf]
   ·
    have hcap2:¬e2≤o:=by omega
    have hcap3:o<e2:=by omega
    refine wp_region_Z 6 (Gr V1) (by kernel_rfl) ?_
    obtain ⟨W2,hW2⟩:∃W2,W2=W1.drew:=⟨_,rfl⟩
    have hS1:Gr V1 W2:=by rw[hW2];exact Gr.drew HB0.out
    have hgb1:W2.heap[g]?=some (.cells (bys l++rest).toArray T (0,0)):=by rw[hW2];exact hgb
    rw[←hW2]
    clear hW2
    refine zu 0 rfl hS1 (fun W hS=>by go_simp;rfl) ?_
    refine zu 1 rfl hS1 (fun W hS=>by go_simp;rfl) ?_
    refine zu 2 rfl hS1 (fun W hS=>by have s2:=(Below.cell hS (p:=⟨w.heap.size,2,none⟩) hz1).trans e2c;go_simp;rfl) ?_
    refine zu 3 rfl hS1 (fun W hS=>by go_simp;rfl) ?_
    refine zu 4 rfl hS1 (fun W hS=>by go_simp;rfl) ?_
    refine zu 5 rfl hS1 (fun W hS=>by have s3:=(Below.cell hS (p:=⟨w.heap.size,3,none⟩) hz1).trans e3c;go_simp;rfl) ?_
    refine wpAnyZ_ready (rs:=[6]) (by kernel_rfl) (by simp) ?_
    refine AllReadyZ.cons (i:=6) rfl (by kernel_rfl) ?zx15 AllReadyZ.nil
    intro K hK
    simp only[List.getElem_toArray,List.getElem_cons_succ,List.getElem_cons_zero]
    refine wp_copy_splice (ops:= #[]) rfl (.tmp 39) (.tmp 41) 49 49 rfl 5 Tryz.underlying49 info_one _ A (l.length-o) _ m.length d rfl rfl g o (bys l++rest) T hgb1 (bys m) (by rw[bys_length,Nat.mul_one];exact (Nat.min_eq_left (by omega)).symm) (fun h=>by rw[bys_length] at h;obtain ⟨ad,e,hb,hcl⟩:=HR.out.2 (by omega);exact ⟨rfl,ad,e,fun j v hv=>(Below.cell (HVV.out.trans hS1) (p:=ad.add j) (by rw[add_blk];exact hb)).trans (hcl j v hv)⟩) (by rw[List.length_append,bys_length,bys_length];omega) (bys_one _) V1.heap.size V1 hS1 HGB.out ?_
    intro W3 hg3 hb3
    have hg4:W3.heap[g]?=some (.cells (bys (putB l o m)++rest).toArray T (0,0)):=by rw[←splice_bys rest hom];exact hg3.out
    have hS3:Gr V1 W3:=hb3
    have HG4:=Lib.hid hg4
    have HS3:=Lib.hid hS3
    clear hg3 hb3 hg4 hgb1 hS1
    refine hK.out _ _ (fun hnz=>?zs16) (fun _=>?zr16)
    case zs16=>exact absurd rfl hnz
    clear hK K
    try (simp only[Pu,List.getElem_toArray,List.getElem_cons_succ,List.getElem_cons_zero])
    refine wpAnyZ_done (by kernel_rfl) ?_ _
    have q0:=(Below.cell hS3 (p:=⟨V.heap.size,0,none⟩) hx1).trans x0
    have q1:=(Below.cell hS3 (p:=⟨V.heap.size,1,none⟩) hx1).trans x1
    have qf:=(Below.frozen hS3 (p:=⟨V.heap.size,1,none⟩) hx1).trans xf
    have k0:=(Below.cell hS3 (p:=⟨w.heap.size,0,none⟩) hz1).trans e0c
    have hqz:=Nat.lt_of_lt_of_le hx1 hS3.size
    have hgz:=(Array.getElem?_eq_some_iff.1 HG4.out).1
    have hwz:=Nat.lt_of_lt_of_le hz1 hS3.size
    clear hS3
    obtain ⟨W4,hW4⟩:∃W4,W4=W3.setCell ⟨V.heap.size,1,none⟩ (.slice (some ⟨g,0,none⟩) l.length e2):=⟨_,rfl⟩
    have HW4:=Lib.hid hW4
    have y0:W4.cell? ⟨V.heap.size,0,none⟩=some (.string nmA):=by rw[hW4];exact (World.cell?_setCell_other _ ⟨V.heap.size,1,none⟩ ⟨V.heap.size,0,none⟩ _ (by first|(simp;done)|(simp;omega))).trans q0
    have y1:W4.cell? ⟨V.heap.size,1,none⟩=some (.slice (some ⟨g,0,none⟩) l.length e2):=by rw[hW4];exact World.cell?_setCell_same' _ _ _ (by rw[q1];rfl)
    have y2:W4.cell? ⟨w.heap.size,0,none⟩=some (.int .i64 2):=by rw[hW4];exact (World.cell?_setCell_other _ ⟨V.heap.size,1,none⟩ ⟨w.heap.size,0,none⟩ _ (by first|(simp;done)|(simp;omega))).trans k0
    have HZ4:Hid (W4.heap.size=W3.heap.size):=Lib.hid (by rw[hW4];simp)
    have hq4:V.heap.size<W4.heap.size:=by rw[HZ4.out];exact hqz
    have hw4:w.heap.size<W4.heap.size:=by rw[HZ4.out];exact hwz
    have hg5:W4.heap[g]?=some (.cells (bys (putB l o m)++rest).toArray T (0,0)):=by rw[hW4];exact (Below.heap_setCell W3 ⟨V.heap.size,1,none⟩ _ g (by have:=HGB.out;simp only;omega)).trans HG4.out
    have HG5:=Lib.hid hg5
    have hS4:Gr V W4:=by rw[hW4];exact Gr.setCell (HVV.out.trans HS3.out) (Nat.le_refl _) _
    have HS4:=Lib.hid hS4
    clear hW4 hg5 hS4 k0
    go_upto_region 11 with (fail)
    rw[←HW4.out]
    clear q0 q1 qf
    go_upto_region 12 with (fail)
    have own0:W4.ownsRow V.heap.size 128 2 (.slice none 0 0) 0 []:=World.ownsRow_nil _ _ _ _
    have hrx:Rd (W4.alloc (.cells #[.string nmA, .slice (some ⟨g,0,none⟩) l.length e2] 128)) 2 (some ⟨W4.heap.size,0,none⟩) 1 [.string nmA, .slice (some ⟨g,0,none⟩) l.length e2]:=Rd.newU (W:=W4) (n:=1) (size:=2) rfl 128 [.string nmA, .slice (some ⟨g,0,none⟩) l.length e2] rfl
    have own1:=own_grU own0 (Gr.alloc (Gr.refl W4) (.cells #[.string nmA, .slice (some ⟨g,0,none⟩) l.length e2] 128))
    go_wp2_with (at_builtin;refine wpList_append_rd rfl (.tmp 53) (.tmp 55) 80 rfl V.heap.size 128 i0 _ 2 40 Tryz.underlying80 hi0 hy0 hy1 hy2 rfl (by decide) _ 0 _ rfl own1 (some ⟨W4.heap.size,0,none⟩) 1 _ [.string nmA, .slice (some ⟨g,0,none⟩) l.length e2] rfl hrx (by intro u hu;simp at hu;rcases hu with rfl|rfl<;>rfl) (by unfold maxLen;omega) (by omega) (by first|(simp;done)|(simp;omega)) ?_;intro v9 w9 own9 hgr9 hob9;have H9:=Lib.hid (And.intro own9 hgr9);have hvo9:=own_form own9;clear own9 hgr9 hob9)
    obtain ⟨A9,c9,hv9⟩:=hvo9
    subst hv9
    go_roundw
    case rel=>
     obtain ⟨own9,hgr9⟩:=H9.out
     have hga:Gr W4 w9:=(Gr.alloc (Gr.refl W4) (.cells #[.string nmA, .slice (some ⟨g,0,none⟩) l.length e2] 128)).grown hgr9 (fun k e=>by have e2:(none:Option Nat)=some k:=e;cases e2)
     rw[Nat.zero_add,List.nil_append] at own9
     obtain ⟨q,hq,hq1,hq2,hq3⟩:=own_blockU own9 (by decide)
     subst hq
     have hpl:=putB_len hom
     refine .inr ⟨by go_num,⟨q,c9,some ⟨g,0,none⟩,e2,by first|rfl|(rw[Nat.zero_add]),own_capU own9,hq2,Nat.le_trans HG.out.size hq1,hq3 0 _ rfl,(hq3 1 _ rfl).trans (by rw[hpl]),by rw[hpl];omega,(block_rb HG5.out).gr hga,fun ad e=>?_⟩,HS4.out.trans hga⟩
     injection e with e
     subst e
     exact ⟨Nat.lt_of_lt_of_le (by rw[HZ4.out];exact hgz) hga.size,by have:=HGB.out;have:=HG.out.size;simp only;omega⟩
    case measure=>simp[intOf]
  ·
   have HF:=Lib.hid (And.intro hfl hgr)
   have hA:∃q c9,u6= .slice (some ⟨q,0,none⟩) 1 c9:=by obtain ⟨q,c9,G,d,e, -⟩:=hfl;exact ⟨q,c9,e⟩
   obtain ⟨q,c9,hu⟩:=hA
   subst hu
   have cc0:=(Below.cell hgr (p:=⟨w.heap.size,0,none⟩) hz).trans c0
   clear hfl hgr
   go_wp2
   go_ret
   exact ⟨_,rfl,HF.out.1,HG.out.trans HF.out.2⟩
theorem info_act:(Tryz.prog.info? 120).map (fun i=>(i.zero,i.size,i.bytes))=some (some (.agg #[.int .i64 0, .string ByteArray.empty, .int .i64 0, .slice none 0 0]),4,56):=by kernel_rfl
def XdS (X B:Nat) (v u k s a d:Value) (W:World):Prop:=W.cell? ⟨X,1,none⟩=some v∧W.cell? ⟨X,3,none⟩=some u∧W.cell? ⟨B,0,none⟩=some k∧W.cell? ⟨B,1,none⟩=some s∧W.cell? ⟨B,2,none⟩=some a∧W.cell? ⟨B,3,none⟩=some d
theorem XdS.kp {X B:Nat} {v u k s a d:Value} {W W':World} {S:Nat→Prop} (h:XdS X B v u k s a d W) (q:Kp S W W') (lX:X<W.heap.size) (lB:B<W.heap.size) (hX:¬S X) (hB:¬S B):XdS X B v u k s a d W':=
 ⟨(q.cell (a:=⟨X,1,none⟩) lX hX).trans h.1,(q.cell (a:=⟨X,3,none⟩) lX hX).trans h.2.1,(q.cell (a:=⟨B,0,none⟩) lB hB).trans h.2.2.1,(q.cell (a:=⟨B,1,none⟩) lB hB).trans h.2.2.2.1,(q.cell (a:=⟨B,2,none⟩) lB hB).trans h.2.2.2.2.1,(q.cell (a:=⟨B,3,none⟩) lB hB).trans h.2.2.2.2.2⟩
theorem XdS.gr {X B:Nat} {v u k s a d:Value} {W W':World} (h:XdS X B v u k s a d W) (q:Gr W W') (lX:X<W.heap.size) (lB:B<W.heap.size):XdS X B v u k s a d W':=h.kp (Kp.of_gr (fun _=>False) q) lX lB (fun h=>h) (fun h=>h)
theorem cell_off {w:World} {X i o:Nat} (v:Value) (h:o≠i):(w.setCell ⟨X,i,none⟩ v).cell? ⟨X,o,none⟩=w.cell? ⟨X,o,none⟩:=World.cell?_setCell_other w ⟨X,i,none⟩ ⟨X,o,none⟩ v (by first|(simp[h];done)|(simp;omega))
theorem RsM.now {Y:Nat→Prop} {X:Nat} {R:Option Nat} {room:Int} {n:Nat} {D:Option (List UInt8)} {w:World} (h:RsM Y w X R room n D) {v':Value} {D':Option (List UInt8)} (hf:FlR w v' (fun g=>g≠X∧R≠some g∧¬Y g) D'):RsM Y (w.setCell ⟨X,1,none⟩ v') X R room n D'∧Kp (fun k=>k=X) w (w.setCell ⟨X,1,none⟩ v'):=by
 have k:Kp (fun k=>k=X) w (w.setCell ⟨X,1,none⟩ v'):=(Kp.refl (fun k=>k=X) w).set (p:=⟨X,1,none⟩) (.inl rfl) v'
 obtain ⟨v,v1,v2⟩:=h.x1
 obtain ⟨y,hy⟩:=h.x2
 obtain ⟨u,xs,u1,u2,u3⟩:=h.x3
 refine ⟨⟨Nat.lt_of_lt_of_le h.lX k.size,(cell_off v' (by decide)).trans h.x0,⟨v',World.cell?_setCell_same' _ _ _ (by rw[v1];rfl),hf.kp k (fun g _ hq e=>hq.1 e)⟩,⟨y,(cell_off v' (by decide)).trans hy⟩,⟨u,xs,(cell_off v' (by decide)).trans u1,u2,k.own u3 (fun i hi e=>h.rX (by rw[←u2,hi,e]))⟩,?_,?_,?_,h.rX,h.nY,h.rY,fun i hi=>Nat.lt_of_lt_of_le (h.yl i hi) k.size⟩,k⟩
 ·
  rw[World.frozen?_setCell];exact h.z1
 ·
  rw[World.frozen?_setCell];exact h.z2
 ·
  rw[World.frozen?_setCell];exact h.z3
theorem RsM.noted {Y:Nat→Prop} {X:Nat} {R:Option Nat} {room:Int} {n m:Nat} {D:Option (List UInt8)} {w W5 w9:World} (h:RsM Y w X R room n D) {v':Value} {ys:List Value} (g5:Gr w W5) (hgr:W5.grownBy w9 R) (own9:w9.ownsRow 0 120 4 v' m ys) (hat:v'.ownBlock=R∨v'.ownBlock=some W5.heap.size) :
  RsM Y (w9.setCell ⟨X,3,none⟩ v') X v'.ownBlock room m D∧Kp (Xch X R) w (w9.setCell ⟨X,3,none⟩ v')∧(∀k,v'.ownBlock=some k→R=some k∨w.heap.size≤k):=by
 have k:Kp (Xch X R) w (w9.setCell ⟨X,3,none⟩ v'):=((Kp.of_gr (Xch X R) g5).grown hgr (fun i hi=> .inl (.inr hi))).set (p:=⟨X,3,none⟩) (.inl (.inl rfl)) _
 have hfr:∀i,v'.ownBlock=some i→R=some i∨w.heap.size≤i:=fun i hi=>by
  rcases hat with e|e
  ·
   exact .inl (e▸hi)
  ·
   rw[e] at hi;injection hi with hi;exact .inr (by rw[←hi];exact g5.size)
 have k9:Kp (fun k=>R=some k) w w9:=(Kp.of_gr (fun k=>R=some k) g5).grown hgr (fun i hi=> .inl hi)
 have kS:Kp (fun k=>k=X) w9 (w9.setCell ⟨X,3,none⟩ v'):=(Kp.refl (fun k=>k=X) _).set (p:=⟨X,3,none⟩) (.inl rfl) _
 have hX:¬R=some X:=h.rX
 have hoX:∀i,v'.ownBlock=some i→i≠X:=fun i hi e=>by
  subst e
  rcases hfr _ hi with e|e
  ·
   exact hX e
  ·
   have:=h.lX;omega
 obtain ⟨v,v1,v2⟩:=h.x1
 obtain ⟨y,hy⟩:=h.x2
 obtain ⟨u,xs,u1,u2,u3⟩:=h.x3
 refine ⟨⟨Nat.lt_of_lt_of_le h.lX k.size,(cell_off v' (by decide)).trans ((k9.cell (a:=⟨X,0,none⟩) h.lX hX).trans h.x0),⟨v,(cell_off v' (by decide)).trans ((k9.cell (a:=⟨X,1,none⟩) h.lX hX).trans v1),(v2.imp (Q':=fun g=>g≠X∧v'.ownBlock≠some g∧¬Y g∧¬Xch X R g) (fun g hg hq=>⟨hq.1,fun e=>by rcases hfr g e with e|e;exact hq.2.1 e;omega,hq.2.2,fun e=>by rcases e with e|e;exact hq.1 e;exact hq.2.1 e⟩)).kp k (fun g _ hq e=>hq.2.2.2 e) |>.imp (fun g _ hq=>⟨hq.1,hq.2.1,hq.2.2.1⟩)⟩,⟨y,(cell_off v' (by decide)).trans ((k9.cell (a:=⟨X,2,none⟩) h.lX hX).trans hy)⟩,⟨v',ys,World.cell?_setCell_same' _ _ _ (by rw[k9.cell (a:=⟨X,3,none⟩) h.lX hX,u1];rfl),rfl,kS.own own9 (fun i hi=>hoX i hi)⟩,?_,?_,?_,fun e=>hoX X e rfl,h.nY,fun i hi e=>?_,fun i hi=>Nat.lt_of_lt_of_le (h.yl i hi) k.size⟩,k,hfr⟩
 ·
  rw[World.frozen?_setCell];exact (k9.frozen (a:=⟨X,1,none⟩) h.lX hX).trans h.z1
 ·
  rw[World.frozen?_setCell];exact (k9.frozen (a:=⟨X,2,none⟩) h.lX hX).trans h.z2
 ·
  rw[World.frozen?_setCell];exact (k9.frozen (a:=⟨X,3,none⟩) h.lX hX).trans h.z3
 ·
  rcases hfr i hi with e2|e2
  ·
   exact h.rY i e2 e
  ·
   have:=h.yl i e;omega
theorem xdo_row {Y:Nat→Prop} {X:Nat} {R:Option Nat} {room:Int} {n:Nat} {D:Option (List UInt8)} {l:List UInt8} (kd at_:Int) (A:Option Addr) (m d:Nat) (hn:n≤1000000) (w:World) (h:RsM Y w X R room n D)
  (hdo:∀v,w.cell? ⟨X,1,none⟩=some v→∀W,Gr w W→Calls Tryz.prog 85 #[v, .agg #[.int .i64 kd, .string nmA, .int .i64 at_, .slice A m d]] W fun e w'=>∃v',e= .returned v'∧FlR w' v' (fun g=>g≠X∧R≠some g∧¬Y g) (some l)∧Gr W w') :
  Calls Tryz.prog 55 #[.pointer (some ⟨X,0,none⟩), .agg #[.int .i64 kd, .string nmA, .int .i64 at_, .slice A m d]] w fun e w'=>e= .returned (.int .i64 0)∧∃R',RsM Y w' X R' room (n+1) (some l)∧Kp (Xch X R) w w'∧(∀i,R'=some i→R=some i∨w.heap.size≤i)∧∃v xs0,v.ownBlock=R'∧xs0.length=n*4∧w'.ownsRow 0 120 4 v (n+1) (xs0++[.int .i64 kd, .string nmA, .int .i64 at_, .slice A m d]):=by
 obtain ⟨i0,hi0,hy0,hy1,hy2⟩:=info_parts info_act
 obtain ⟨V,hV⟩:∃V,V=w.alloc (.cells #[.int .i64 kd, .string nmA, .int .i64 at_, .slice A m d] 120):=⟨_,rfl⟩
 have gV:Gr w V:=by rw[hV];exact Gr.alloc (Gr.refl w) _
 have hz:w.heap.size<V.heap.size:=by rw[hV];simp
 have c0:V.cell? ⟨w.heap.size,0,none⟩=some (.int .i64 kd):=by rw[hV];go_simp
 have c1:V.cell? ⟨w.heap.size,1,none⟩=some (.string nmA):=by rw[hV];go_simp
 have c2:V.cell? ⟨w.heap.size,2,none⟩=some (.int .i64 at_):=by rw[hV];go_simp
 have c3:V.cell? ⟨w.heap.size,3,none⟩=some (.slice A m d):=by rw[hV];go_simp
 obtain ⟨v,v1,v2⟩:=h.x1
 obtain ⟨u,xs,u1,u2,u3⟩:=h.x3
 have hx1:=(Below.cell gV (p:=⟨X,1,none⟩) h.lX).trans v1
 have hx3:=(Below.cell gV (p:=⟨X,3,none⟩) h.lX).trans u1
 have lX:=Nat.lt_of_lt_of_le h.lX gV.size
 have HDO:=Lib.hid (hdo v v1)
 have HF:=Lib.hid h
 have HV:=Lib.hid hV
 have HG:=Lib.hid gV
 have HXW:=Lib.hid h.lX
 have HRL:=Lib.hid h.lR
 have hvs:∃Av nv cv,v= .slice Av nv cv:=by
  cases D with
  | none=>obtain ⟨c,e⟩:=v2;exact ⟨_,_,_,e⟩
  | some l=>obtain ⟨b,c,G,dd,e, -⟩:=v2;exact ⟨_,_,_,e⟩
 obtain ⟨Av,nv,cv,hv0⟩:=hvs
 subst hv0
 obtain ⟨Au,cu,hu0⟩:=own_form u3
 subst hu0
 clear hV gV h hdo v1 v2 u1 u2 u3
 go_enter Tryz.func55,Tryz.ntmps55
 go_upto_region 1 with (fail)
 rw[←HV.out]
 clear HV
 refine wp_region_Z 9 (XdS X w.heap.size (.slice Av nv cv) (.slice Au n cu) (.int .i64 kd) (.string nmA) (.int .i64 at_) (.slice A m d)) (by kernel_rfl) ?_
 have hS0:XdS X w.heap.size (.slice Av nv cv) (.slice Au n cu) (.int .i64 kd) (.string nmA) (.int .i64 at_) (.slice A m d) V.drew:=⟨hx1,hx3,c0,c1,c2,c3⟩
 have g0:Gr V V.drew:=Gr.drew (Gr.refl _)
 obtain ⟨W0,hW0⟩:∃W0,W0=V.drew:=⟨_,rfl⟩
 rw[←hW0] at hS0 g0 ⊢
 clear hW0
 refine zu 0 rfl hS0 (fun W hS=>by go_simp;rfl) ?_
 refine zu 1 rfl hS0 (fun W hS=>by go_simp;rfl) ?_
 refine zu 2 rfl hS0 (fun W hS=>by go_simp;rfl) ?_
 refine zu 3 rfl hS0 (fun W hS=>by go_simp;rfl) ?_
 refine zu 4 rfl hS0 (fun W hS=>by have s1:=hS.1;go_simp;rfl) ?_
 refine zu 5 rfl hS0 (fun W hS=>by have s3:=hS.2.2.1;have s4:=hS.2.2.2.1;have s5:=hS.2.2.2.2.1;have s6:=hS.2.2.2.2.2;go_simp;rfl) ?_
 refine wpAnyZ_ready (rs:=[6]) (by kernel_rfl) (by simp) ?_
 refine AllReadyZ.cons (i:=6) rfl (by kernel_rfl) ?zx7 AllReadyZ.nil
 intro K hK
 simp only[List.getElem_toArray,List.getElem_cons_succ,List.getElem_cons_zero]
 go_simp
 refine (HDO.out W0 (HG.out.trans g0)).mono ?_;rintro x W1 ⟨v',rfl,hfl,g1⟩
 have hS1:=hS0.gr g1 (Nat.lt_of_lt_of_le lX g0.size) (Nat.lt_of_lt_of_le hz g0.size)
 have hvs:∃A1 n1 c1,v'= .slice A1 n1 c1:=by obtain ⟨b,c,G,dd,e, -⟩:=hfl;exact ⟨_,_,_,e⟩
 have H1:=Lib.hid (And.intro hfl (And.intro g1 g0))
 clear hfl
 obtain ⟨A1,n1,c1',hv1⟩:=hvs
 subst hv1
 go_wp2_with fail
 refine hK.out _ _ (fun hnz=>?zs7) (fun _=>?zr7)
 case zs7=>exact hS1
 clear hK K
 try (simp only[Pu,List.getElem_toArray,List.getElem_cons_succ,List.getElem_cons_zero])
 refine zu 7 rfl hS1 (fun W hS=>by go_simp;rfl) ?_
 refine zu 8 rfl hS1 (fun W hS=>by go_simp;rfl) ?_
 have hN:=(HF.out.gr (HG.out.trans (g0.trans g1))).now H1.out.1
 have gW1:=Nat.lt_of_lt_of_le lX (g0.trans g1).size
 have fz:=(HF.out.gr (HG.out.trans (g0.trans g1))).z1
 have hv3:=(HF.out.gr (HG.out.trans (g0.trans g1))).x3
 have HN:=Lib.hid (And.intro hN (HG.out.trans (g0.trans g1)))
 clear hN g1 g0
 refine wpAnyZ_ready (rs:=[9]) (by kernel_rfl) (by simp) ?_
 refine AllReadyZ.cons (i:=9) rfl (by kernel_rfl) ?zx10 AllReadyZ.nil
 intro K hK
 simp only[List.getElem_toArray,List.getElem_cons_succ,List.getElem_cons_zero]
 have s1:=hS1.1
 go_simp
 refine hK.out _ _ (fun hnz=>?zs10) (fun _=>?zr10)
 case zs10=>exact absurd rfl hnz
 clear hK K
 try (simp only[Pu,List.getElem_toArray,List.getElem_cons_succ,List.getElem_cons_zero])
 refine wpAnyZ_done (by kernel_rfl) ?_ _
 obtain ⟨W2,hW2⟩:∃W2,W2=W1.setCell ⟨X,1,none⟩ (.slice A1 n1 c1'):=⟨_,rfl⟩
 rw[←hW2]
 rw[←hW2] at HN
 have kb:∀o,W2.cell? ⟨w.heap.size,o,none⟩=W1.cell? ⟨w.heap.size,o,none⟩:=fun o=>by rw[hW2];exact World.cell?_setCell_other _ ⟨X,1,none⟩ ⟨w.heap.size,o,none⟩ _ (by have:=HXW.out;first|(simp;omega)|(simp;done))
 have b0:=(kb 0).trans hS1.2.2.1
 have b1:=(kb 1).trans hS1.2.2.2.1
 have b2:=(kb 2).trans hS1.2.2.2.2.1
 have b3:=(kb 3).trans hS1.2.2.2.2.2
 have hz2:w.heap.size<W2.heap.size:=by rw[hW2];have:=H1.out.2.1.size;have:=H1.out.2.2.size;simp;omega
 clear hW2 kb hS1 hS0 s1 fz gW1 hv3 hx1 hx3 c0 c1 c2 c3
 go_upto_region 2 with (fail)
 obtain ⟨v2,xs,v3,v4,v5⟩:=HN.out.1.1.x3
 obtain ⟨y1,y2,y3⟩:=HN.out.1.1.x1
 obtain ⟨A0,cp0,hv⟩:=own_form v5
 subst hv
 have HV3:=Lib.hid (And.intro v4 v5)
 have lX2:=HN.out.1.1.lX
 refine wp_region_Z 10 (XdS X w.heap.size y1 (.slice A0 n cp0) (.int .i64 kd) (.string nmA) (.int .i64 at_) (.slice A m d)) (by kernel_rfl) ?_
 have hS0:XdS X w.heap.size y1 (.slice A0 n cp0) (.int .i64 kd) (.string nmA) (.int .i64 at_) (.slice A m d) W2.drew:=⟨y2,v3,b0,b1,b2,b3⟩
 have g0:Gr W2 W2.drew:=Gr.drew (Gr.refl _)
 obtain ⟨W3,hW3⟩:∃W3,W3=W2.drew:=⟨_,rfl⟩
 rw[←hW3] at hS0 g0 ⊢
 clear hW3 y2 y3 v3 v4 v5 b0 b1 b2 b3
 refine zu 0 rfl hS0 (fun W hS=>by go_simp;rfl) ?_
 refine zu 1 rfl hS0 (fun W hS=>by go_simp;rfl) ?_
 refine zu 2 rfl hS0 (fun W hS=>by go_simp;rfl) ?_
 refine zu 3 rfl hS0 (fun W hS=>by go_simp;rfl) ?_
 refine zu 4 rfl hS0 (fun W hS=>by have s2:=hS.2.1;go_simp;rfl) ?_
 refine zu 5 rfl hS0 (fun W hS=>by have s3:=hS.2.2.1;have s4:=hS.2.2.2.1;have s5:=hS.2.2.2.2.1;have s6:=hS.2.2.2.2.2;go_simp;rfl) ?_
 have hrx:Rd (W3.alloc (.cells #[.int .i64 kd, .string nmA, .int .i64 at_, .slice A m d] 120)) 4 (some ⟨W3.heap.size,0,none⟩) 1 [.int .i64 kd, .string nmA, .int .i64 at_, .slice A m d]:=Rd.newU (W:=W3) rfl 120 [.int .i64 kd, .string nmA, .int .i64 at_, .slice A m d] rfl
 have g5:Gr W3 (W3.alloc (.cells #[.int .i64 kd, .string nmA, .int .i64 at_, .slice A m d] 120)):=Gr.alloc (Gr.refl _) _
 have lX3:=Nat.lt_of_lt_of_le lX2 g0.size
 have lB3:=Nat.lt_of_lt_of_le hz2 g0.size
 refine wpAnyZ_ready (rs:=[6]) (by kernel_rfl) (by simp) ?_
 refine AllReadyZ.cons (i:=6) rfl (by kernel_rfl) ?zx17 AllReadyZ.nil
 intro K hK
 simp only[List.getElem_toArray,List.getElem_cons_succ,List.getElem_cons_zero]
 go_simp
 refine hK.out _ _ (fun hnz=>?zs17) (fun _=>?zr17)
 case zs17=>exact hS0.gr g5 lX3 lB3
 clear hK K
 try (simp only[Pu,List.getElem_toArray,List.getElem_cons_succ,List.getElem_cons_zero])
 obtain ⟨W5,hW5⟩:∃W5,W5=W3.alloc (.cells #[.int .i64 kd, .string nmA, .int .i64 at_, .slice A m d] 120):=⟨_,rfl⟩
 rw[←hW5] at hrx g5 ⊢
 clear hW5
 have hS5:=hS0.gr g5 lX3 lB3
 have o5:=own_grU (own_grU HV3.out.2 g0) g5
 refine wpAnyZ_ready (rs:=[7]) (by kernel_rfl) (by simp) ?_
 refine AllReadyZ.cons (i:=7) rfl (by kernel_rfl) ?zx18 AllReadyZ.nil
 intro K hK
 simp only[List.getElem_toArray,List.getElem_cons_succ,List.getElem_cons_zero]
 refine wp_append_rd0 (.tmp 18) (.tmp 20) 81 rfl 0 120 i0 _ 4 56 Tryz.underlying81 hi0 hy0 hy1 hy2 rfl (by decide) _ n _ rfl o5 (some ⟨W3.heap.size,0,none⟩) 1 _ [.int .i64 kd, .string nmA, .int .i64 at_, .slice A m d] rfl hrx (by intro u hu;simp at hu;rcases hu with rfl|rfl|rfl|rfl<;>rfl) (by unfold maxLen;omega) (by omega) (by omega) ?_
 intro v' w9 own9 hgr9 hob9
 have hnt:=HN.out.1.1.noted (g0.trans g5) (by rw[←HV3.out.1];exact hgr9) own9 (by rw[←HV3.out.1];exact hob9)
 have hS9:=hS5.kp ((Kp.refl (fun q=>(Value.slice A0 n cp0).ownBlock=some q) _).grown hgr9 (fun q hq=> .inl hq)) (Nat.lt_of_lt_of_le lX3 g5.size) (Nat.lt_of_lt_of_le lB3 g5.size) (fun e=>HN.out.1.1.rX (by rw[←HV3.out.1];exact e)) (fun e=>by have:=HRL.out _ (by rw[←HV3.out.1];exact e);omega)
 have z9:w9.frozen? ⟨X,3,none⟩=false:=by
  have k9:Kp (fun q=>(Value.slice A0 n cp0).ownBlock=some q) W2 w9:=(Kp.of_gr _ (g0.trans g5)).grown hgr9 (fun q hq=> .inl hq)
  exact (k9.frozen (a:=⟨X,3,none⟩) lX2 (fun e=>HN.out.1.1.rX (by rw[←HV3.out.1];exact e))).trans HN.out.1.1.z3
 have HO9:=Lib.hid (ownsRow_setCell_other own9 (a:=⟨X,3,none⟩) hnt.1.rX v')
 have lX9:X<w9.heap.size:=Nat.lt_of_lt_of_le (Nat.lt_of_lt_of_le lX3 g5.size) hgr9.size
 obtain ⟨A9,c9,hv9⟩:=own_form own9
 subst hv9
 have HT:=Lib.hid hnt
 clear hnt own9 hgr9 hob9 o5 hrx hS5 hS0 g5
 refine hK.out _ _ (fun hnz=>?zs18) (fun _=>?zr18)
 case zs18=>exact hS9
 clear hK K
 try (simp only[Pu,List.getElem_toArray,List.getElem_cons_succ,List.getElem_cons_zero])
 refine zu 8 rfl hS9 (fun W hS=>by go_simp;rfl) ?_
 refine zu 9 rfl hS9 (fun W hS=>by go_simp;rfl) ?_
 refine wpAnyZ_ready (rs:=[10]) (by kernel_rfl) (by simp) ?_
 refine AllReadyZ.cons (i:=10) rfl (by kernel_rfl) ?zx21 AllReadyZ.nil
 intro K hK
 simp only[List.getElem_toArray,List.getElem_cons_succ,List.getElem_cons_zero]
 have s2:=hS9.2.1
 go_simp
 refine hK.out _ _ (fun hnz=>?zs21) (fun _=>?zr21)
 case zs21=>exact absurd rfl hnz
 clear hK K
 try (simp only[Pu,List.getElem_toArray,List.getElem_cons_succ,List.getElem_cons_zero])
 refine wpAnyZ_done (by kernel_rfl) ?_ _
 go_wp2
 go_ret
 have hxl:=HV3.out.2.1
 refine ⟨rfl,_,HT.out.1,?_,fun i hi=>?_,_,xs,rfl,hxl,HO9.out⟩
 ·
  exact (((Kp.of_gr (Xch X R) HN.out.2).trans HN.out.1.2 (fun i _ e=> .inl e)).trans HT.out.2.1 (fun i _ e=>e))
 ·
  rcases HT.out.2.2 i hi with e|e
  ·
   exact .inl e
  ·
   exact .inr (Nat.le_trans (Nat.le_trans HN.out.2.size HN.out.1.2.size) e)
theorem xdo_any {Y:Nat→Prop} {X:Nat} {R:Option Nat} {room:Int} {n:Nat} {D:Option (List UInt8)} {l:List UInt8} (kd at_:Int) (A:Option Addr) (m d:Nat) (hn:n≤1000000) (w:World) (h:RsM Y w X R room n D)
  (hdo:∀v,w.cell? ⟨X,1,none⟩=some v→∀W,Gr w W→Calls Tryz.prog 85 #[v, .agg #[.int .i64 kd, .string nmA, .int .i64 at_, .slice A m d]] W fun e w'=>∃v',e= .returned v'∧FlR w' v' (fun g=>g≠X∧R≠some g∧¬Y g) (some l)∧Gr W w') :
  Calls Tryz.prog 55 #[.pointer (some ⟨X,0,none⟩), .agg #[.int .i64 kd, .string nmA, .int .i64 at_, .slice A m d]] w fun e w'=>e= .returned (.int .i64 0)∧∃R',RsM Y w' X R' room (n+1) (some l)∧Kp (Xch X R) w w'∧∀i,R'=some i→R=some i∨w.heap.size≤i:=
 (xdo_row kd at_ A m d hn w h hdo).mono fun e w' q=>by
  obtain ⟨e1,R',q1,q2,q3, -⟩:=q
  exact ⟨e1,R',q1,q2,q3⟩
end Go.Proofs.YtoncapkmaeghfaaGreat
