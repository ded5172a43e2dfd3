import Derived.Test.YtnphdacibageiaaGreatRunFpFindR
import Derived.Test.YtnphdacibageiaaGreatRunFxBase
import Derived.Test.YtnphdacibageiaaGreatRows
import Derived.ProofKit
import Derived.Lib.SmallJoins
import Derived.Deep.SlicePairs
import Derived.Carry
import Derived.ShutString
import Derived.Test.YtnphdacibageiaaGreatRunFpPlain
import Derived.Deep.Slices
set_option linter.all false
set_option maxRecDepth 1000000
set_option maxHeartbeats 12800000
namespace Go.Proofs.YtnphdacibageiaaGreat
open Go.RowKit
theorem info_strN:(Tryz.prog.info? 9).map (fun i=>(i.zero,i.size,i.bytes))=some (some (.string ⟨#[]⟩),1,16):=by kernel_rfl
theorem ncells_take (L:List Fr) (k:Nat) (h:k<L.length):ncells (L.take (k+1))=ncells (L.take k)++[.string L[k].nm]:=by
 unfold ncells;rw[List.take_succ_eq_append_getElem h,List.map_append];rfl
theorem fnames_any (w:World):Calls Tryz.prog 6 #[] w fun e w'=>∃A c,e= .returned (.slice A rowsL.length c)∧Rd w' 1 A rowsL.length (ncells rowsL)∧Gr w w':=by
 obtain ⟨i0,hi0,hz0,hz1,hz2⟩:=info_parts info_strN
 have QR:=rows_any
 unfold RetRows at QR
 have hl:rowsL.length≤22:=Nat.le_refl _
 generalize rowsL=L at QR hl ⊢
 have hl':(L.length:Int)≤22:=by omega
 go_enter Tryz.func6,Tryz.ntmps6
 go_wp2_with fail
 refine (QR _).mono ?_;rintro e w1 ⟨A,rfl,hr,hg⟩
 clear QR
 go_wp2
 go_loopw [1,6] (fun v i wr=>∃k:Nat,k≤L.length∧i= .int .i64 k∧Gr w wr∧Gr w1 wr∧wr.ownsRow w1.heap.size 9 1 v k (ncells (L.take k))) (fun _ i _=>L.length-(intOf i).toNat)
 case atStart=>exact ⟨0,Nat.zero_le _,rfl,hg,Gr.refl _,World.ownsRow_nil _ _ _ _⟩
 case round=>
  obtain ⟨k,hk,rfl,hgr,hg1,hown⟩:=hrel
  by_cases hlt:k<L.length
  ·
   obtain ⟨ad,rfl,hb,hx0,hx1,hx2,hx3⟩:=(hr.gr hg1).at hlt
   have HT:=Lib.hid (ncells_take L k hlt)
   generalize L[k]=r at hx0 hx1 hx2 hx3 HT
   have HG:=Lib.hid (And.intro hgr hg1)
   obtain ⟨wB,hwB⟩:∃wB,wB=wr.alloc (.cells #[.string r.nm, .int .i64 r.kind, .int .i64 r.by_, .bool r.least] 46):=⟨_,rfl⟩
   have gB:Gr wr wB:=by rw[hwB];exact Gr.alloc (Gr.refl wr) _
   have b0:wB.cell? ⟨wr.heap.size,0,none⟩=some (.string r.nm):=by rw[hwB];go_simp
   have hownB:=own_gr hown gB
   have hzs:=hg1.size
   have hzg:=hg.size
   go_upto_region 5 with (fail)
   rw[←hwB]
   have hzB:wr.heap.size<wB.heap.size:=by rw[hwB];simp
   clear hwB hx0 hx1 hx2 hx3 hown
   have hrx:Rd (wB.alloc (.cells ([.string r.nm]:List Value).toArray 9)) 1 (some ⟨wB.heap.size,0,none⟩) 1 ([.string r.nm]:List Value):=Rd.new (W:=wB) rfl 9 ([.string r.nm]:List Value) rfl
   have hv0:=own_gr hownB (Gr.alloc (Gr.refl wB) (.cells ([.string r.nm]:List Value).toArray 9))
   have hvl:=hownB.lt
   generalize wr.heap.size=Bx at b0 hzB hzs ⊢
   clear hownB
   go_wp2_with (at_builtin;refine wpList_append_rd rfl (.tmp 10) (.tmp 13) 27 rfl w1.heap.size 9 i0 _ 1 16 Tryz.underlying27 hi0 hz0 hz1 hz2 rfl (by decide) _ k _ rfl hv0 (some ⟨wB.heap.size,0,none⟩) 1 _ [.string r.nm] rfl hrx (by simp[Value.oneCell']) (by unfold maxLen;omega) (by omega) (by simp;omega) ?_;intro v' w7 hown7 hgr7 hat7)
   have gw7:Gr w w7:=Gr.grown (Gr.alloc (Gr.trans HG.out.1 gB) _) hgr7 (fun i hi=>Nat.le_trans hzg (hvl i hi).1)
   have g17:Gr w1 w7:=Gr.grown (Gr.alloc (Gr.trans HG.out.2 gB) _) hgr7 (fun i hi=>(hvl i hi).1)
   rw[←HT.out] at hown7
   clear hv0 hvl hgr7 hat7 hrx
   go_wp2
   go_roundw
   case rel=>exact ⟨k+1,by omega,by go_num,gw7,g17,hown7⟩
   case measure=>simp[intOf];omega
  ·
   have hke:k=L.length:=by omega
   subst hke
   obtain ⟨A',c',hvv⟩:=own_form hown
   subst hvv
   have hRd:=Rd.own hown
   rw[List.take_length] at hRd
   have HR:=Lib.hid hRd
   clear hown hRd
   go_wp2
   go_ret
   exact ⟨A',c',rfl,HR.out,hgr⟩
theorem law_FpickOthers (nm:ByteArray) (ok:Bool) (n:Int) (A:Option Addr) (c:Nat) (L:List Sq) (w:World) (hcap:L.length≤c) (hr:Rl w A L) (hv:Lie w L) :
  Calls Tryz.prog 4 #[.string nm, .agg #[.bool ok, .int .i64 n], .slice A L.length c] w fun e w'=>e= .returned (.bool true)∧Gr w w':=by
 have Q:=fun w hr hv=>appliedt_any nm ⟨#[97]⟩ (fun _ w=>compile_a w) (fun _ w=>rcompile_a w) ⟨ok,n⟩ A c L w hcap hr hv
 have QF:=fun W=>fnames_any W
 have QN:=fun W=>names_any W
 have hl:rowsL.length≤22:=Nat.le_refl _
 generalize rowsL=M at QF QN hl
 have hl':(M.length:Int)≤22:=by omega
 have gb:Gr w (w.alloc (.cells #[.bool ok, .int .i64 n] 25)):=Gr.alloc (Gr.refl _) _
 have b0:(w.alloc (.cells #[.bool ok, .int .i64 n] 25)).cell? ⟨w.heap.size,0,none⟩=some (.bool ok):=by go_simp
 have b1:(w.alloc (.cells #[.bool ok, .int .i64 n] 25)).cell? ⟨w.heap.size,1,none⟩=some (.int .i64 n):=by go_simp
 have HB:=Lib.hid (And.intro b0 b1)
 have hbz:w.heap.size<(w.alloc (.cells #[.bool ok, .int .i64 n] 25)).heap.size:=by simp
 clear b0 b1
 go_enter Tryz.func4,Tryz.ntmps4
 by_cases h300:(300:Int)<(nm.size:Int)
 ·
  go_wp2
  go_ret
  exact ⟨rfl,gb⟩
 go_wp2_with fail
 refine (QF _).mono ?_;rintro e w1 ⟨A1,c1,rfl,hr1,g1⟩
 go_wp2_with fail
 refine (QN _).mono ?_;rintro e w2 ⟨A2,rfl,hr2,g2⟩
 have G2:=Lib.hid (Gr.trans g1 g2)
 have hR1:=hr1.gr g2
 clear hr1 g1 g2 QF QN
 go_wp2
 go_loopw [9] (fun i wr=>∃k:Nat,k≤M.length∧i= .int .i64 k∧Gr w2 wr) (fun i _=>M.length-(intOf i).toNat)
 case atStart=>exact ⟨0,Nat.zero_le _,rfl,Gr.refl _⟩
 case round=>
  obtain ⟨k,hk,rfl,hgr⟩:=hrel
  by_cases hlt:k<M.length
  ·
   obtain ⟨a1,e1,hb1,hc1⟩:=hR1.2 (by omega)
   obtain ⟨a2,e2,hb2,hc2⟩:=hr2.2 (by omega)
   subst e1
   subst e2
   have HX:Hid (∀W,Gr wr W→W.cell? (a1.add k)=some (.string M[k].nm)∧W.cell? (a2.add k)=some (.string M[k].nm)):=Lib.hid fun W hW=>
    ⟨((Gr.trans hgr hW).cell (p:=a1.add k) (by rw[add_blk];exact hb1)).trans (hc1 k _ (ncells_at M k hlt)),((Gr.trans hgr hW).cell (p:=a2.add k) (by rw[add_blk];exact hb2)).trans (hc2 k _ (ncells_at M k hlt))⟩
   generalize M[k].nm=s at HX
   have hki:(k:Int)<(M.length:Int):=by omega
   clear hc1 hc2 hb1 hb2 hR1 hr2
   go_upto_region 9 with (fail)
   refine region_Q (by kernel_rfl) (by kernel_rfl) ?_
   iterate 3 (refine qv ?_;simp only[Pu])
   refine q_val (v:=?qv10) (by rfl) (fun W hW=>?qh10) ?qr10
   case qh10=>have n0:=(HX.out W hW).1;have n1:=(HX.out W hW).2;go_simp;rfl
   simp only[Pu]
   iterate 3 (refine qv ?_;simp only[Pu])
   refine q_val (v:=?qv14) (by rfl) (fun W hW=>?qh14) ?qr14
   case qh14=>have n0:=(HX.out W hW).1;have n1:=(HX.out W hW).2;go_simp;rfl
   simp only[Pu]
   refine qv ?_;simp only[Pu]
   refine wpQuiet_nil ?_
   intro w6 hg6
   have g6:=Gr.trans hgr hg6
   clear HX hg6
   go_wp2
   go_roundw
   case rel=>exact ⟨k+1,by omega,by go_num,g6⟩
   case measure=>simp[intOf];omega
  ·
   have gk:=Gr.trans gb (Gr.trans G2.out hgr)
   have d0:=(Below.cell (Gr.trans G2.out hgr) (p:=⟨w.heap.size,0,none⟩) hbz).trans HB.out.1
   have d1:=(Below.cell (Gr.trans G2.out hgr) (p:=⟨w.heap.size,1,none⟩) hbz).trans HB.out.2
   clear hR1 hr2
   go_wp2_with fail
   refine (Q _ (hr.gr gk) (hv.gr gk)).mono ?_;rintro e w8 ⟨rfl,g8⟩
   go_wp2_with fail
   refine (known23_any _).mono ?_;rintro e w9 ⟨rfl,g9⟩
   go_wp2
   go_ret
   exact ⟨rfl,Gr.trans gk (Gr.trans g8 g9)⟩
section
open Go.ChangeShapes Go.WideShapes Go.ChangeAt Go.RowKit Go.Joins
open Go.Deep (open_slice_pairs)
theorem own_knob:ownKnob Tryz.prog.godebug=none:=by kernel_rfl
theorem laid_out:laidOutB Tryz.prog=true:=by kernel_rfl
theorem cells_val:Tryz.prog.cellsOf 25=2:=by kernel_rfl
theorem i64_lo {n:Int} (h:(Lit.int .i64 n).wf=true): -9223372036854775808≤n:=by
 simp[Lit.wf,IntKind.min,IntKind.max,IntKind.signed,IntKind.bits] at h;omega
theorem i64_hi {n:Int} (h:(Lit.int .i64 n).wf=true):n≤9223372036854775807:=by
 simp[Lit.wf,IntKind.min,IntKind.max,IntKind.signed,IntKind.bits] at h;omega
section
variable {H:Type} {enc:TypeId×Value→H} {w:World} {base:Nat} {spare:Nat→Bool} {held:Bool}
def I64 (n:Int):Prop:= -9223372036854775808≤n∧n≤9223372036854775807
theorem open_val {r:Reach} {b0:Nat} {v:Value} {d:DataW H} {p:List MemPlace} (hv:Value.okWide Tryz.prog w r b0 25 v)
  (h:DataW.Trod enc Tryz.prog w base spare held 25 v d p):∃a:Vl,v= .agg #[.bool a.ok, .int .i64 a.n]∧I64 a.n:=by
 obtain ⟨c0,c1,y0,y1,m,rfl,rfl,rfl,hy0,hy1⟩:=open_agg2 Tryz.underlying25 (by kernel_rfl) cells_val hv h
 obtain ⟨ok,e0,rfl⟩:=DataW.trod_bool Tryz.underlying4 hy0
 obtain ⟨n,e1,rfl,wn⟩:=DataW.trod_int Tryz.underlying3 hy1
 simp at e0 e1
 subst e0 e1
 exact ⟨⟨ok,n⟩,rfl,i64_lo wn,i64_hi wn⟩
theorem choose_vl {m:Nat} {P:Nat→Vl→Prop} (h:∀i,i<m→∃a,P i a):∃l:List Vl,l.length=m∧∀i (hi:i<l.length),P i l[i]:=by
 induction m with
 | zero=>exact ⟨[],rfl,fun i hi=>absurd hi (by simp)⟩
 | succ m ih=>
  obtain ⟨l,hl,hp⟩:=ih (fun i hi=>h i (by omega))
  obtain ⟨a,ha⟩:=h m (by omega)
  refine ⟨l++[a],by simp[hl],fun i hi=>?_⟩
  by_cases hlt:i<l.length
  ·
   rw[List.getElem_append_left hlt];exact hp i hlt
  ·
   obtain rfl:i=m:=by simp at hi;omega
   simpa [hl] using ha
theorem vflat_at (l:List Vl) (j:Nat) (u:Value) (h:(vcells l)[j]?=some u):∃k,∃hk:k<l.length,(j=k*2∧u= .bool l[k].ok)∨(j=k*2+1∧u= .int .i64 l[k].n):=by
 have hj:j<(vcells l).length:=(List.getElem?_eq_some_iff.1 h).1
 rw[vcells_length] at hj
 have hk:j/2<l.length:=by omega
 obtain ⟨e0,e1⟩:=vcells_at l (j/2) hk
 refine ⟨j/2,hk,?_⟩
 rcases Nat.mod_two_eq_zero_or_one j with hm|hm
 ·
  have ej:j=j/2*2:=by omega
  rw[←ej,h] at e0
  exact .inl ⟨ej,by simpa using e0⟩
 ·
  have ej:j=j/2*2+1:=by omega
  rw[←ej,h] at e1
  exact .inr ⟨ej,by simpa using e1⟩
end
end
section
open Go.ChangeShapes Go.WideShapes Go.ChangeAt Go.RowKit Go.Joins
theorem cells_series:Tryz.prog.cellsOf 34=5:=by kernel_rfl
section
variable {H:Type} {enc:TypeId×Value→H} {w:World} {held:Bool}
def Fine (w:World) (x:Sq):Prop:=x.s.vals.length≤x.c∧Rv w x.A x.s.vals
theorem vals_cs {n:Nat} {cs:List Value} {x:DataW H×List MemPlace} (hf:DataW.trod enc Tryz.prog w 0 (fun _=>true) held n 32 cs=some x) :
  ∃(A:Option Addr) (l:List Vl) (c:Nat),cs=[.slice A l.length c]∧l.length≤c∧Rv w A l:=by
 rcases Go.Deep.open_slice_pairs Tryz.underlying32 Tryz.underlying25 cells_val rfl rfl (by kernel_rfl) (by kernel_rfl) hf with ⟨hcs,_⟩|⟨a,len',cap',m,n,V0,V1,D0,D1,P0,P1,hcs,hb,hl,hm,hmm,hx,hi⟩
 ·
  exact ⟨none,[],0,hcs,Nat.zero_le _,Rv.nil _ _⟩
 ·
  simp at hmm
  subst hmm
  have each:∀i,i<len'→∃x:Vl,(w.cell? (a.add (i*2))=some (.bool x.ok)∧w.cell? (a.add (i*2+1))=some (.int .i64 x.n)):=by
   intro i hi'
   obtain ⟨h0,h1,t0,t1⟩:=hi i (by omega)
   obtain ⟨ok,e0,_⟩:=DataW.trod_bool Tryz.underlying4 t0
   obtain ⟨z,e1,_,wz⟩:=DataW.trod_int Tryz.underlying3 t1
   simp at e0 e1
   rw[e0] at h0
   rw[e1] at h1
   exact ⟨⟨ok,z⟩,h0,h1⟩
  obtain ⟨l,hll,hp⟩:=choose_vl each
  refine ⟨some a,l,_,by rw[hll];exact hcs,by omega,⟨vcells_length l,fun hn=>⟨a,rfl,?_,?_⟩⟩⟩
  ·
   have h0:=(hp 0 hn).1
   rw[Nat.zero_mul] at h0
   exact World.block_lt_of_cell? w _ h0
  ·
   intro j u hu
   obtain ⟨k,hk,⟨rfl,rfl⟩|⟨rfl,rfl⟩⟩:=vflat_at l j u hu
   ·
    exact (hp k hk).1
   ·
    exact (hp k hk).2
theorem series_cs {n:Nat} {cs:List Value} {x:DataW H×List MemPlace} (hf:DataW.trod enc Tryz.prog w 0 (fun _=>true) held n 34 cs=some x) :
  ∃q:Sq,cs=[.string q.s.name, .int .i64 q.s.start, .int .i64 q.s.step, .slice q.A q.s.vals.length q.c, .int .i64 q.s.cons]∧Fine w q:=by
 obtain ⟨xs,k,_,_,hl,hlen,hi⟩:=DataW.trod_struct Tryz.underlying34 hf
 rw[cells_series] at hl
 match cs,hl,xs,hlen with
 | [v0,v1,v2,v3,v4],_,[y0,y1,y2,y3,y4],_=>
  have g0:=hi 0 _ rfl
  have g1:=hi 1 _ rfl
  have g2:=hi 2 _ rfl
  have g3:=hi 3 _ rfl
  have g4:=hi 4 _ rfl
  have k9:Tryz.prog.cellsOf 9=1:=by kernel_rfl
  have k3:Tryz.prog.cellsOf 3=1:=by kernel_rfl
  have k22:Tryz.prog.cellsOf 32=1:=by kernel_rfl
  simp[k9,k3,k22] at g0 g1 g2 g3 g4
  obtain ⟨nm,e0,_,_⟩:=DataW.trod_string Tryz.underlying9 g0
  obtain ⟨st,e1,_,_⟩:=DataW.trod_int Tryz.underlying3 g1
  obtain ⟨sp,e2,_,_⟩:=DataW.trod_int Tryz.underlying3 g2
  obtain ⟨A,l,c,e3,hc,hr⟩:=vals_cs g3
  obtain ⟨cn,e4,_,_⟩:=DataW.trod_int Tryz.underlying3 g4
  simp at e0 e1 e2 e3 e4
  subst e0 e1 e2 e3 e4
  exact ⟨⟨⟨nm,st,sp,l,cn⟩,A,c⟩,rfl,hc,hr⟩
theorem choose_sq {m:Nat} {P:Nat→Sq→Prop} (h:∀i,i<m→∃a,P i a):∃l:List Sq,l.length=m∧∀i (hi:i<l.length),P i l[i]:=by
 induction m with
 | zero=>exact ⟨[],rfl,fun i hi=>absurd hi (by simp)⟩
 | succ m ih=>
  obtain ⟨l,hl,hp⟩:=ih (fun i hi=>h i (by omega))
  obtain ⟨a,ha⟩:=h m (by omega)
  refine ⟨l++[a],by simp[hl],fun i hi=>?_⟩
  by_cases hlt:i<l.length
  ·
   rw[List.getElem_append_left hlt];exact hp i hlt
  ·
   obtain rfl:i=m:=by simp at hi;omega
   simpa [hl] using ha
theorem sflat_at (l:List Sq) (j:Nat) (u:Value) (h:(scells l)[j]?=some u):∃k,∃hk:k<l.length,∃i,i<5∧j=k*5+i∧[Value.string l[k].s.name, .int .i64 l[k].s.start, .int .i64 l[k].s.step, .slice l[k].A l[k].s.vals.length l[k].c, .int .i64 l[k].s.cons][i]?=some u:=by
 have hj:j<(scells l).length:=(List.getElem?_eq_some_iff.1 h).1
 rw[scells_length] at hj
 have hk:j/5<l.length:=by omega
 obtain ⟨s0,s1,s2,s3,s4⟩:=scells_at l (j/5) hk
 refine ⟨j/5,hk,j%5,Nat.mod_lt _ (by decide),by omega,?_⟩
 have hd:j=j/5*5+j%5:=by omega
 rw[←h]
 rcases (show j%5=0∨j%5=1∨j%5=2∨j%5=3∨j%5=4 by omega) with e|e|e|e|e
 all_goals
  rw[e] at hd ⊢
  conv=>rhs;rw[hd]
  first|exact s0.symm|exact s1.symm|exact s2.symm|exact s3.symm|exact s4.symm
theorem open_serieses {r:Reach} {b0:Nat} {v:Value} {d:DataW H} {p:List MemPlace} (hv:Value.okWide Tryz.prog w r b0 22 v)
  (h:DataW.Trod enc Tryz.prog w 0 (fun _=>true) held 22 v d p):∃(A:Option Addr) (L:List Sq) (c:Nat),v= .slice A L.length c∧L.length≤c∧Rl w A L∧∀x∈L,Fine w x:=by
 obtain ⟨a0,len,cap,rfl⟩:=okWide_slice Tryz.underlying22 hv
 obtain ⟨fuel,hf⟩:=h
 rcases Go.Deep.open_slice Tryz.underlying22 hf with ⟨hcs,_⟩|⟨a,len',cap',m,n,D,Pl,hcs,hb,hl,hm,hmm,hx,hi⟩
 ·
  simp[Value.cells] at hcs
  obtain ⟨rfl,rfl,rfl⟩:=hcs
  exact ⟨none,[],0,rfl,Nat.zero_le _,Rd.nil _ _ _,fun x hx=>by simp at hx⟩
 ·
  simp[Value.cells] at hcs
  obtain ⟨rfl,rfl,rfl⟩:=hcs
  simp at hmm
  subst hmm
  have each:∀i,i<len→∃q:Sq,(∀j u,[Value.string q.s.name, .int .i64 q.s.start, .int .i64 q.s.step, .slice q.A q.s.vals.length q.c, .int .i64 q.s.cons][j]?=some u→w.cell? (a.add (i*5+j))=some u)∧Fine w q:=by
   intro i hi'
   obtain ⟨cs',h1,h2⟩:=hi i (by omega)
   rw[cells_series] at h1
   obtain ⟨_,hlen,hcell⟩:=World.cells?_some h1
   obtain ⟨q,hq,hF⟩:=series_cs h2
   refine ⟨q,fun j u hu=>?_,hF⟩
   have hj:j<5:=by have:=(List.getElem?_eq_some_iff.1 hu).1;simpa using this
   have:=hcell j hj
   rw[add_two] at this
   rw[this,hq];exact hu
  obtain ⟨L,hll,hp⟩:=choose_sq each
  refine ⟨some a,L,_,by rw[hll],by omega,⟨scells_length L,fun hn=>⟨a,rfl,?_,?_⟩⟩,?_⟩
  ·
   have h0:=(hp 0 hn).1 0 _ rfl
   have e:(a.add (0*5+0)).block=a.block:=add_blk _ _
   rw[←e]
   exact World.block_lt_of_cell? w _ h0
  ·
   intro j u hu
   obtain ⟨k,hk,i,_,rfl,hu'⟩:=sflat_at L j u hu
   exact (hp k hk).1 i u hu'
  ·
   intro x hx
   obtain ⟨i,hi,rfl⟩:=List.getElem_of_mem hx
   exact (hp i hi).2
end
end
end Go.Proofs.YtnphdacibageiaaGreat
