import Derived.Test.YtoncapkmaeghfaaGreatRunLwCrt
import Derived.Test.YtoncapkmaeghfaaGreatRunVfMap
import Derived.Deep.Slices
import Derived.Test.YtoncapkmaeghfaaGreatRunLwUpd
set_option linter.all false
set_option maxRecDepth 1000000
set_option maxHeartbeats 12800000
namespace Go.Proofs.YtoncapkmaeghfaaGreat
section
open Go.ChangeShapes Go.WideShapes Go.ChangeAt Go.RowKit Go.Joins
theorem cells_header:Tryz.prog.cellsOf 24=3:=by kernel_rfl
theorem cells_arch:Tryz.prog.cellsOf 69=2:=by kernel_rfl
def Rg (w:World) (A:Option Addr) (l:List (Int×Int)):Prop:=
 0<l.length→∃ad:Addr,A=some ad∧ad.block<w.heap.size∧∀k (h:k<l.length),w.cell? (ad.add (k*2))=some (.int .i64 l[k].1)∧w.cell? ⟨(ad.add (k*2)).block,(ad.add (k*2)).off+1,none⟩=some (.int .i64 l[k].2)
section
variable {H:Type} {enc:TypeId×Value→H} {w:World} {held:Bool}
theorem choose_pr {m:Nat} {P:Nat→Int×Int→Prop} (h:∀i,i<m→∃a,P i a):∃l:List (Int×Int),l.length=m∧∀i (hi:i<l.length),P i l[i]:=by
 induction m with
 | zero=>exact ⟨[],rfl,fun i hi=>absurd hi (by simp)⟩
 | succ m ih=>
  obtain ⟨l,hl,hp⟩:=ih (fun i hi=>h i (by omega))
  obtain ⟨a,ha⟩:=h m (by omega)
  refine ⟨l++[a],by simp[hl],fun i hi=>?_⟩
  by_cases hlt:i<l.length
  ·
   rw[List.getElem_append_left hlt];exact hp i hlt
  ·
   obtain rfl:i=m:=by simp at hi;omega
   simpa [hl] using ha
theorem pairs_cs {n:Nat} {t e:TypeId} {f0 f1:Field} {cs:List Value} {x:DataW H×List MemPlace} (ht:Tryz.prog.underlying t=some (.slice e)) (he:Tryz.prog.underlying e=some (.struct #[f0,f1])) (ce:Tryz.prog.cellsOf e=2) (o0:f0.offset=0) (o1:f1.offset=1) (t0:f0.type=3) (t1:f1.type=3)
  (hf:DataW.trod enc Tryz.prog w 0 (fun _=>true) held n t cs=some x):∃(A:Option Addr) (l:List (Int×Int)) (c:Nat),cs=[.slice A l.length c]∧l.length≤c∧c≤maxLen∧Rg w A l:=by
 rcases Go.Deep.open_slice_pairs ht he ce o0 o1 (by rw[t0];kernel_rfl) (by rw[t1];kernel_rfl) hf with ⟨hcs,_⟩|⟨a,len',cap',m,n,V0,V1,D0,D1,P0,P1,hcs,hb,hl,hm,hmm,hx,hi⟩
 ·
  exact ⟨none,[],0,hcs,Nat.zero_le _,Nat.zero_le _,fun h=>absurd h (Nat.lt_irrefl _)⟩
 ·
  simp at hmm
  subst hmm
  have each:∀i,i<len'→∃x:Int×Int,(w.cell? (a.add (i*2))=some (.int .i64 x.1)∧w.cell? (a.add (i*2+1))=some (.int .i64 x.2)):=by
   intro i hi'
   obtain ⟨h0,h1,k0,k1⟩:=hi i (by omega)
   rw[t0] at k0
   rw[t1] at k1
   obtain ⟨y,e0,_,_⟩:=DataW.trod_int Tryz.underlying3 k0
   obtain ⟨z,e1,_,_⟩:=DataW.trod_int Tryz.underlying3 k1
   simp at e0 e1
   rw[e0] at h0
   rw[e1] at h1
   exact ⟨(y,z),h0,h1⟩
  obtain ⟨l,hll,hp⟩:=choose_pr each
  refine ⟨some a,l,_,by rw[hll];exact hcs,by omega,hm,fun hn=>⟨a,rfl,?_,fun k hk=>⟨(hp k hk).1,?_⟩⟩⟩
  ·
   have h0:=(hp 0 hn).1
   rw[Nat.zero_mul] at h0
   exact World.block_lt_of_cell? w _ h0
  ·
   have:=(hp k hk).2
   rw[←this]
   exact (congrArg w.cell? (add_next a (k*2) 0)).symm
theorem open_header {r:Reach} {b0:Nat} {v:Value} {d:DataW H} {p:List MemPlace} (hv:Value.okWide Tryz.prog w r b0 24 v)
  (h:DataW.Trod enc Tryz.prog w 0 (fun _=>true) held 24 v d p):∃(ag xf:Int) (A:Option Addr) (l:List (Int×Int)) (c:Nat),v= .agg #[.int .i64 ag, .int .i64 xf, .slice A l.length c]∧l.length≤c∧c≤maxLen∧Rg w A l:=by
 obtain ⟨cs,rfl,_⟩:=okWide_struct Tryz.underlying24 hv
 obtain ⟨fuel,hf⟩:=h
 obtain ⟨xs,k,_,_,hl,hlen,hi⟩:=DataW.trod_struct Tryz.underlying24 hf
 rw[cells_header] at hl
 have e:∃v0 v1 v2,cs= #[v0,v1,v2]:=by
  obtain ⟨L⟩:=cs
  match L,hl with
  | [v0,v1,v2],_=>exact ⟨v0,v1,v2,rfl⟩
 obtain ⟨v0,v1,v2,rfl⟩:=e
 match xs,hlen with
 | [y0,y1,y2],_=>
  have g0:=hi 0 _ rfl
  have g1:=hi 1 _ rfl
  have g2:=hi 2 _ rfl
  have k3:Tryz.prog.cellsOf 3=1:=by kernel_rfl
  have k22:Tryz.prog.cellsOf 22=1:=by kernel_rfl
  simp[Value.cells,k3,k22] at g0 g1 g2
  obtain ⟨ag,e0,_,_⟩:=DataW.trod_int Tryz.underlying3 g0
  obtain ⟨xf,e1,_,_⟩:=DataW.trod_int Tryz.underlying3 g1
  obtain ⟨A,l,c,e2,hc,hm,hr⟩:=pairs_cs Tryz.underlying22 Tryz.underlying69 cells_arch rfl rfl rfl rfl g2
  simp at e0 e1 e2
  subst e0 e1 e2
  exact ⟨ag,xf,A,l,c,rfl,hc,hm,hr⟩
end
end
section
open Go.ChangeShapes Go.WideShapes Go.ChangeAt Go.RowKit Go.Joins
theorem cells_point:Tryz.prog.cellsOf 54=2:=by kernel_rfl

end
section
open Go.ChangeShapes Go.WideShapes Go.ChangeAt Go.RowKit Go.Joins
theorem cells_act:Tryz.prog.cellsOf 40=6:=by kernel_rfl
def actC (a:Actt):List Value:=[.int .i64 a.kd, .int .i64 a.now, .int .i64 a.frm, .int .i64 a.unt, .int .i64 a.ix, .slice a.pa a.np a.pc]
def FineA (w:World) (a:Actt):Prop:=a.np≤a.pc∧a.pc≤maxLen∧∃L:List (Int×Int),L.length=a.np∧Rg w a.pa L
section
variable {H:Type} {enc:TypeId×Value→H} {w:World} {held:Bool}
theorem act_cs {n:Nat} {cs:List Value} {x:DataW H×List MemPlace} (hf:DataW.trod enc Tryz.prog w 0 (fun _=>true) held n 40 cs=some x) :
  ∃a:Actt,cs=actC a∧FineA w a:=by
 obtain ⟨xs,k,_,_,hl,hlen,hi⟩:=DataW.trod_struct Tryz.underlying40 hf
 rw[cells_act] at hl
 match cs,hl,xs,hlen with
 | [v0,v1,v2,v3,v4,v5],_,[y0,y1,y2,y3,y4,y5],_=>
  have g0:=hi 0 _ rfl
  have g1:=hi 1 _ rfl
  have g2:=hi 2 _ rfl
  have g3:=hi 3 _ rfl
  have g4:=hi 4 _ rfl
  have g5:=hi 5 _ rfl
  have k3:Tryz.prog.cellsOf 3=1:=by kernel_rfl
  have k22:Tryz.prog.cellsOf 38=1:=by kernel_rfl
  simp[k3,k22] at g0 g1 g2 g3 g4 g5
  obtain ⟨kd,e0,_,_⟩:=DataW.trod_int Tryz.underlying3 g0
  obtain ⟨now,e1,_,_⟩:=DataW.trod_int Tryz.underlying3 g1
  obtain ⟨frm,e2,_,_⟩:=DataW.trod_int Tryz.underlying3 g2
  obtain ⟨unt,e3,_,_⟩:=DataW.trod_int Tryz.underlying3 g3
  obtain ⟨ix,e4,_,_⟩:=DataW.trod_int Tryz.underlying3 g4
  obtain ⟨A,L,c,e5,hc,hm,hr⟩:=pairs_cs Tryz.underlying38 Tryz.underlying54 cells_point rfl rfl rfl rfl g5
  simp at e0 e1 e2 e3 e4 e5
  subst e0 e1 e2 e3 e4 e5
  exact ⟨⟨kd,now,frm,unt,ix,A,L.length,c⟩,rfl,hc,hm,L,rfl,hr⟩
theorem choose_act {m:Nat} {P:Nat→Actt→Prop} (h:∀i,i<m→∃a,P i a):∃l:List Actt,l.length=m∧∀i (hi:i<l.length),P i l[i]:=by
 induction m with
 | zero=>exact ⟨[],rfl,fun i hi=>absurd hi (by simp)⟩
 | succ m ih=>
  obtain ⟨l,hl,hp⟩:=ih (fun i hi=>h i (by omega))
  obtain ⟨a,ha⟩:=h m (by omega)
  refine ⟨l++[a],by simp[hl],fun i hi=>?_⟩
  by_cases hlt:i<l.length
  ·
   rw[List.getElem_append_left hlt];exact hp i hlt
  ·
   obtain rfl:i=m:=by simp at hi;omega
   simpa [hl] using ha
theorem open_acts {r:Reach} {b0:Nat} {v:Value} {d:DataW H} {p:List MemPlace} (hv:Value.okWide Tryz.prog w r b0 25 v)
  (h:DataW.Trod enc Tryz.prog w 0 (fun _=>true) held 25 v d p):∃(A:Option Addr) (l:List Actt) (c:Nat),v= .slice A l.length c∧l.length≤c∧c≤maxLen∧Rac w A l∧∀k (h:k<l.length),FineA w l[k]:=by
 obtain ⟨a0,len,cap,rfl⟩:=okWide_slice Tryz.underlying25 hv
 obtain ⟨fuel,hf⟩:=h
 rcases Go.Deep.open_slice Tryz.underlying25 hf with ⟨hcs,_⟩|⟨a,len',cap',m,n,D,Pl,hcs,hb,hl,hm,hmm,hx,hi⟩
 ·
  simp[Value.cells] at hcs
  obtain ⟨rfl,rfl,rfl⟩:=hcs
  exact ⟨none,[],0,rfl,Nat.zero_le _,Nat.zero_le _,fun h=>absurd h (Nat.lt_irrefl _),fun k h=>absurd h (by simp)⟩
 ·
  simp[Value.cells] at hcs
  obtain ⟨rfl,rfl,rfl⟩:=hcs
  simp at hmm
  subst hmm
  have each:∀i,i<len→∃q:Actt,(∀j u,(actC q)[j]?=some u→w.cell? (a.add (i*6+j))=some u)∧FineA w q:=by
   intro i hi'
   obtain ⟨cs',h1,h2⟩:=hi i (by omega)
   rw[cells_act] at h1
   obtain ⟨_,hlen,hcell⟩:=World.cells?_some h1
   obtain ⟨q,hq,hF⟩:=act_cs h2
   refine ⟨q,fun j u hu=>?_,hF⟩
   have hj:j<6:=by have:=(List.getElem?_eq_some_iff.1 hu).1;simpa [actC] using this
   have:=hcell j hj
   rw[add_two] at this
   rw[this,hq];exact hu
  obtain ⟨L,hll,hp⟩:=choose_act each
  refine ⟨some a,L,_,by rw[hll],by omega,hm,fun hn=>⟨a,rfl,?_,fun k hk=>?_⟩,fun k hk=>(hp k hk).2⟩
  ·
   have h0:=(hp 0 hn).1 0 _ rfl
   have e:(a.add (0*6+0)).block=a.block:=add_blk _ _
   rw[←e]
   exact World.block_lt_of_cell? w _ h0
  ·
   have hc:=(hp k hk).1
   refine ⟨hc 0 _ rfl,?_,?_,?_,?_,?_⟩
   ·
    rw[←add_next a (k*6) 0];exact hc 1 _ rfl
   ·
    rw[←add_next a (k*6) 1];exact hc 2 _ rfl
   ·
    rw[←add_next a (k*6) 2];exact hc 3 _ rfl
   ·
    rw[←add_next a (k*6) 3];exact hc 4 _ rfl
   ·
    rw[←add_next a (k*6) 4];exact hc 5 _ rfl
end
end
end Go.Proofs.YtoncapkmaeghfaaGreat
