import Derived.Test.YtnphdacibageiaaGreatRunFpFinds
import Derived.Test.YtnphdacibageiaaGreatRunFxBase
import Derived.Deep.RegionHeld3
import Derived.StillTailTactics
import Derived.Outline
import Derived.BigQuiet
import Derived.Test.YtnphdacibageiaaGreatRunFpRow
import Derived.Deep.CutRange
import Derived.Test.YtnphdacibageiaaGreatRunFpSorted
import Derived.Deep.Cut
import Derived.Test.YtnphdacibageiaaGreatRunPkVis
import Derived.Deep.Light
import Derived.IntWalk
import Derived.Test.YtnphdacibageiaaGreatRunSrFitB
set_option linter.all false
set_option maxRecDepth 1000000
set_option maxHeartbeats 12800000
namespace Go.Proofs.YtnphdacibageiaaGreat
open Go.RowKit
def applyTE (nm text:ByteArray) (S:List Sr):Int:=if (findF nm).isSome=true then (if S.all isS=true then (if (rowF nm).kind=0 then errX text.data.toList else 0) else 1) else 9
noncomputable def grepS (nm text:ByteArray) (s:Sr):Bool:=isC (codeY text.data.toList) s.name.data.toList==(nm.toList==[103,114,101,112])
noncomputable def applyTS (nm text:ByteArray) (k:Vl) (S:List Sr):List Sr:=if applyTE nm text S=0 then (if (rowF nm).kind=0 then S.filter (grepS nm text) else pickA id (rowF nm) (normV k) S) else []
theorem grep_map (nm text:ByteArray) (L:List Sq):(L.filter (grepB nm text)).map Sq.s=(L.map Sq.s).filter (grepS nm text):=by
 induction L with
 | nil=>rfl
 | cons x L ih=>
  rw[List.map_cons,List.filter_cons,List.filter_cons]
  have e:grepS nm text x.s=grepB nm text x:=rfl
  rw[e]
  cases grepB nm text x
  ·
   simpa using ih
  ·
   simp[ih]
theorem applyT_zero {nm text:ByteArray} {k:Vl} {L:List Sq} (hf:(findF nm).isSome=true) (hok:okL L=true) (h0:(rowF nm).kind=0) :
  applyTE nm text (L.map Sq.s)=errX text.data.toList∧applyTS nm text k (L.map Sq.s)=(bif errX text.data.toList==0 then L.filter (grepB nm text) else []).map Sq.s:=by
 have hE:applyTE nm text (L.map Sq.s)=errX text.data.toList:=by unfold applyTE;rw[if_pos hf,okL_s,if_pos hok,if_pos h0]
 refine ⟨hE,?_⟩
 unfold applyTS
 rw[hE]
 by_cases he:errX text.data.toList=0
 ·
  rw[if_pos he,if_pos h0,beq_iff_eq.2 he,cond_true,grep_map]
 ·
  rw[if_neg he,beq_eq_false_iff_ne.2 he,cond_false]
  rfl
theorem applyT_bad {nm text:ByteArray} {k:Vl} {L:List Sq} (hf:(findF nm).isSome=true) (hok:okL L=false):applyTE nm text (L.map Sq.s)=1∧applyTS nm text k (L.map Sq.s)=[]:=by
 have hE:applyTE nm text (L.map Sq.s)=1:=by unfold applyTE;rw[if_pos hf,okL_s,hok];rfl
 exact ⟨hE,by unfold applyTS;rw[hE];rfl⟩
theorem rfof_no (nm:ByteArray) (s:Sr) (A:Option Addr) (c:Nat) (w:World) (e0:(nm.toList==[115,111,114,116,66,121,77,97,120,105,109,97])=false) (e1:(nm.toList==[104,105,103,104,101,115,116,77,97,120])=false) (e2:(nm.toList==[109,97,120,105,109,117,109,65,98,111,118,101])=false) (e3:(nm.toList==[109,97,120,105,109,117,109,66,101,108,111,119])=false) (e4:(nm.toList==[115,111,114,116,66,121,84,111,116,97,108])=false) (e5:(nm.toList==[115,111,114,116,66,121,77,105,110,105,109,97])=false) (e6:(nm.toList==[109,105,110,105,109,117,109,65,98,111,118,101])=false) (e7:(nm.toList==[109,105,110,105,109,117,109,66,101,108,111,119])=false) (e8:(nm.toList==[104,105,103,104,101,115,116,65,118,101,114,97,103,101])=false) (e9:(nm.toList==[108,111,119,101,115,116,65,118,101,114,97,103,101])=false) (e10:(nm.toList==[97,118,101,114,97,103,101,65,98,111,118,101])=false) (e11:(nm.toList==[97,118,101,114,97,103,101,66,101,108,111,119])=false) (e12:(nm.toList==[104,105,103,104,101,115,116,67,117,114,114,101,110,116])=false) (e13:(nm.toList==[108,111,119,101,115,116,67,117,114,114,101,110,116])=false) (e14:(nm.toList==[99,117,114,114,101,110,116,65,98,111,118,101])=false) (e15:(nm.toList==[99,117,114,114,101,110,116,66,101,108,111,119])=false) (e16:(nm.toList==[109,111,115,116,68,101,118,105,97,110,116])=false) :
  Calls Tryz.prog 14 #[.string nm,aggSr s A c] w (RetVl ⟨false,0⟩ w):=by
 unfold aggSr
 go_enter Tryz.func14,Tryz.ntmps14
 go_wp2
 exact bodyPost_ret (v:= .agg #[.bool false, .int .i64 0]) (by simp[results,Tryz.results14,go_sem, *]) rfl ⟨rfl,gq⟩
def NB (n:Nat) (w:World) (b:Nat) (v:Vl):Prop:=w.cell? ⟨b,0,none⟩=some (.bool v.ok)∧w.cell? ⟨b,1,none⟩=some (.int .i64 v.n)∧w.frozen? ⟨b,0,none⟩=false∧w.frozen? ⟨b,1,none⟩=false∧n≤b∧b<w.heap.size
theorem NB.gr {n:Nat} {w w':World} {b:Nat} {v:Vl} (h:NB n w b v) (g:Gr w w'):NB n w' b v:=by
 obtain ⟨h0,h1,f0,f1,hn,hb⟩:=h
 exact ⟨(g.cell (p:=⟨b,0,none⟩) hb).trans h0,(g.cell (p:=⟨b,1,none⟩) hb).trans h1,(g.frozen (p:=⟨b,0,none⟩) hb).trans f0,(g.frozen (p:=⟨b,1,none⟩) hb).trans f1,hn,Nat.lt_of_lt_of_le hb g.size⟩
theorem NB.new {n:Nat} (w:World) (T:TypeId) (h:n≤w.heap.size):NB n (w.alloc (.cells #[.bool false, .int .i64 0] T)) w.heap.size ⟨false,0⟩:=by
 refine ⟨?_,?_,?_,?_,h,?_⟩
 all_goals first|(go_simp;done)|(simp;done)
theorem NB.set {n:Nat} {w:World} {b:Nat} {v:Vl} (h:NB n w b v) (u:Vl):NB n ((w.setCell ⟨b,0,none⟩ (.bool u.ok)).setCell ⟨b,1,none⟩ (.int .i64 u.n)) b u:=by
 obtain ⟨h0,h1,f0,f1,hn,hb⟩:=h
 refine ⟨?_,?_,?_,?_,hn,?_⟩
 all_goals first|(go_simp;done)|(simpa using hb)
theorem NB.other {n:Nat} {w:World} {b b':Nat} {v:Vl} (h:NB n w b v) (u:Vl) (hne:b≠b'):NB n ((w.setCell ⟨b',0,none⟩ (.bool u.ok)).setCell ⟨b',1,none⟩ (.int .i64 u.n)) b v:=by
 obtain ⟨h0,h1,f0,f1,hn,hb⟩:=h
 have e:∀j k,(⟨b',j,none⟩:Addr)≠⟨b,k,none⟩:=fun j k e=>by injection e with e;exact hne e.symm
 refine ⟨?_,?_,?_,?_,hn,?_⟩
 ·
  exact (World.cell?_setCell_other _ _ _ _ (e 1 0)).trans ((World.cell?_setCell_other _ _ _ _ (e 0 0)).trans h0)
 ·
  exact (World.cell?_setCell_other _ _ _ _ (e 1 1)).trans ((World.cell?_setCell_other _ _ _ _ (e 0 1)).trans h1)
 ·
  simpa using f0
 ·
  simpa using f1
 ·
  simpa using hb
theorem scells_drop (L:List Sq) (m:Nat) (h:m≤L.length):scells (L.drop m)=(scells L).drop (m*5):=by
 have h1:scells (L.take m)++scells (L.drop m)=scells L:=by rw[←scells_append,List.take_append_drop]
 rw[←h1,List.drop_left' (by rw[scells_length,List.length_take];congr 1;omega)]
theorem Rl.drop {w:World} {ad:Addr} {L:List Sq} (h:Rl w (some ad) L) {m c:Nat} (hm:m≤L.length) (hc:L.length≤c):Rd w 5 (if c=m then some ad else some (ad.add (m*5))) (L.length-m) (scells (L.drop m)):=by
 refine ⟨by rw[scells_length,List.length_drop],fun h0=>?_⟩
 rw[if_neg (by omega)]
 obtain ⟨ad',e,hb,hc⟩:=h.2 (by omega)
 injection e with e
 subst e
 refine ⟨_,rfl,by rw[add_blk];exact hb,fun j u hu=>?_⟩
 rw[scells_drop L m hm,List.getElem?_drop] at hu
 rw[add_two]
 exact hc _ u hu
theorem Rl.takes {w:World} {A:Option Addr} {L:List Sq} (h:Rl w A L) {m:Nat} (hm:m≤L.length):Rd w 5 A m (scells (L.take m)):=by
 have h1:=h.take hm
 unfold Rl at h1
 rw[List.length_take,Nat.min_eq_left hm] at h1
 exact h1
def ncells (L:List Fr):List Value:=L.map fun r=> .string r.nm
theorem ncells_at (L:List Fr) (k:Nat) (h:k<L.length):(ncells L)[k]?=some (.string L[k].nm):=by
 unfold ncells;rw[List.getElem?_map,List.getElem?_eq_getElem h];rfl
theorem names_any (w:World):Calls Tryz.prog 7 #[] w fun e w'=>∃A,e= .returned (.slice A rowsL.length 22)∧Rd w' 1 A rowsL.length (ncells rowsL)∧Gr w w':=by
 go_enter Tryz.func7,Tryz.ntmps7
 go_wp2
 go_ret
 exact ⟨_,rfl,Rd.new rfl _ (ncells rowsL) (by rfl),Gr.alloc (Gr.refl _) _⟩
theorem knows_any (nm:ByteArray) (w:World):Calls Tryz.prog 29 #[.string nm] w fun e w'=>e= .returned (.bool (findF nm).isSome)∧Gr w w':=by
 have QN:=names_any
 have hl:rowsL.length≤22:=Nat.le_refl _
 have HF:Hid (∀j (h:j<rowsL.length),isNm nm rowsL[j]=true→(findF nm).isSome=true):=Lib.hid (fun j h hy=>by
  cases hf:findF nm with
  | none=>exact absurd hy (List.find?_eq_none.1 hf _ (List.getElem_mem h))
  | some r=>rfl)
 have HN:Hid ((∀j (h:j<rowsL.length),isNm nm rowsL[j]=false)→(findF nm).isSome=false):=Lib.hid (fun h=>by unfold findF;rw[find_none h];rfl)
 generalize findF nm=fo at HF HN ⊢
 generalize rowsL=L at QN hl HF HN
 have hl':(L.length:Int)≤22:=by omega
 go_enter Tryz.func29,Tryz.ntmps29
 go_wp2_with fail
 refine (QN _).mono ?_;rintro e w1 ⟨A,rfl,hr,hg⟩
 clear QN
 go_wp2
 go_loopw [4] (fun i wr=>∃k:Nat,k≤L.length∧i= .int .i64 k∧Gr w wr∧Gr w1 wr∧Hid (∀j (h:j<L.length),j<k→isNm nm L[j]=false)) (fun i _=>L.length-(intOf i).toNat)
 case atStart=>exact ⟨0,Nat.zero_le _,rfl,hg,Gr.refl _,Lib.hid (fun j _ h=>absurd h (Nat.not_lt_zero _))⟩
 case round=>
  obtain ⟨k,hk,rfl,hgr,hg1,ha⟩:=hrel
  by_cases hlt:k<L.length
  ·
   obtain ⟨ad,rfl,hb,hc⟩:=hr.2 (by omega)
   have hx0:=(hg1.cell (p:=ad.add k) (by rw[add_blk];exact hb)).trans (hc _ _ (ncells_at L k hlt))
   obtain ⟨y,hy⟩:∃y,L[k].nm=y:=⟨_,rfl⟩
   rw[hy] at hx0
   cases hx:isNm nm L[k]
   ·
    have Ht:Hid (∀j (h:j<L.length),j<k+1→isNm nm L[j]=false):=Lib.hid (fun j h hj=>by
     by_cases e:j=k
     ·
      subst e;exact hx
     ·
      exact ha.out j h (by omega))
    have hcmp:(y.toList==nm.toList)=false:=by rw[←hy];exact hx
    clear hx hc hr ha hy
    go_wp2
    go_roundw
    case rel=>exact ⟨k+1,by omega,by go_num,hgr,hg1,Ht⟩
    case measure=>simp[intOf];omega
   ·
    have Ht:=Lib.hid (HF.out k hlt hx)
    have hcmp:(y.toList==nm.toList)=true:=by rw[←hy];exact hx
    clear hx hc hr ha hy
    go_wp2
    go_ret
    exact ⟨by rw[Ht.out];rfl,hgr⟩
  ·
   have hkk:k=L.length:=by omega
   subst hkk
   have Ht:Hid (fo.isSome=false):=Lib.hid (HN.out (fun j h=>ha.out j h h))
   clear ha hr
   go_wp2
   go_ret
   exact ⟨by rw[Ht.out];rfl,hgr⟩
def RetTk (E:Int) (M:List Sq) (w:World) (e:Ending) (w':World):Prop:=
 ∃(A:Option Addr) (c:Nat),e= .returned (.tuple #[.slice A M.length c, .int .i64 E])∧Rl w' A M∧Gr w w'
theorem ret_tup {A:Option Addr} {n m c:Nat} {v:Value} (h:n=m):Ending.returned (.tuple #[.slice A n c,v])= .returned (.tuple #[.slice A m c,v]):=by rw[h]
theorem rapply_bad (nm text:ByteArray) (k:Vl) (A:Option Addr) (c:Nat) (L:List Sq) (w:World) (hf:(findF nm).isSome=true) (hok:okL L=false) (h20:L.length≤20) (hr:Rl w A L) (hv:Lie w L) :
  Calls Tryz.prog 12 #[.string nm, .agg #[.bool k.ok, .int .i64 k.n], .string text, .slice A L.length c] w (RetTk 1 [] w):=by
 have QK:=fun w=>knows_any nm w
 simp only[hf] at QK
 have HNO:Hid ((∀j (h:j<L.length),isS L[j].s=true)→False):=Lib.hid (fun h=>by
  have h1:okL L=true:=List.all_eq_true.2 (fun x hx=>by obtain ⟨j,hj,rfl⟩:=List.getElem_of_mem hx;exact h j hj)
  rw[h1] at hok;cases hok)
 have gb:Gr w (w.alloc (.cells #[.bool k.ok, .int .i64 k.n] 25)):=Gr.alloc (Gr.refl _) _
 have h20':(L.length:Int)≤20:=by omega
 clear hok hf
 go_enter Tryz.func12,Tryz.ntmps12
 go_wp2_with fail
 refine (QK _).mono ?_;rintro e w1 ⟨rfl,hg1⟩
 have gw1:=Gr.trans gb hg1
 clear QK gb hg1
 go_wp2
 go_loopw [10] (fun i wr=>∃j:Nat,j≤L.length∧i= .int .i64 j∧Gr w wr∧Hid (∀i (h:i<L.length),i<j→isS L[i].s=true)) (fun i _=>L.length-(intOf i).toNat)
 case atStart=>exact ⟨0,Nat.zero_le _,rfl,gw1,Lib.hid (fun i _ h=>absurd h (Nat.not_lt_zero _))⟩
 case round=>
  obtain ⟨j,hj,rfl,hgr,HA⟩:=hrel
  by_cases hlt:j<L.length
  ·
   obtain ⟨x,hx⟩:∃x,L[j]=x:=⟨_,rfl⟩
   obtain ⟨ad,rfl,hb,hx0,hx1,hx2,hx3,hx4⟩:=(hr.gr hgr).at hlt
   have hvx:=(hv _ (List.getElem_mem hlt)).gr hgr
   rw[hx] at hx0 hx1 hx2 hx3 hx4 hvx
   have QI:=fun w hr=>rsis_any x.s x.A x.c w hr
   cases hsx:isS x.s
   ·
    simp only[hsx] at QI
    clear hx hsx
    go_wp2_with fail
    refine (QI _ hvx).mono ?_;rintro e w5 ⟨rfl,hg⟩
    clear hx0 hx1 hx2 hx3 hx4
    go_wp2
    go_ret2
    exact ⟨none,0,rfl,Rd.nil _ _ _,Gr.trans hgr hg⟩
   ·
    have HA2:Hid (∀i (h:i<L.length),i<j+1→isS L[i].s=true):=Lib.hid (fun i h hi=>by
     by_cases e:i=j
     ·
      subst e;rw[hx];exact hsx
     ·
      exact HA.out i h (by omega))
    simp only[hsx] at QI
    clear hx hsx HA
    go_wp2_with fail
    refine (QI _ hvx).mono ?_;rintro e w5 ⟨rfl,hg⟩
    have gw5:=Gr.trans hgr hg
    clear hx0 hx1 hx2 hx3 hx4 hg
    go_wp2
    go_roundw
    case rel=>exact ⟨j+1,by omega,by go_num,gw5,HA2⟩
    case measure=>simp[intOf];omega
  ·
   exact (HNO.out (fun i h=>HA.out i h (by omega))).elim
theorem info_way12:(Tryz.prog.info? 175).map (fun i=>(i.zero,i.size,i.bytes))=some (some (.agg #[.int .i64 0, .int .i64 0, .slice none 0 0]),3,40):=by kernel_rfl
theorem info_int12:(Tryz.prog.info? 3).map (fun i=>(i.zero,i.size,i.bytes))=some (some (.int .i64 0),1,8):=by kernel_rfl
theorem info_bool12:(Tryz.prog.info? 4).map (fun i=>(i.zero,i.size,i.bytes))=some (some (.bool false),1,1):=by kernel_rfl
def RetWk (ok:Prop) (w:World) (e:Ending) (w':World):Prop:=∃v b,e= .returned (.tuple #[v, .bool b])∧(b=true↔ok)∧Gr w w'
def icl (l:List Int):List Value:=l.map fun z=> .int .i64 z
def isT:Option Value→Bool
 | some (.bool b)=>b
 | _=>false
def unseenW (B1 N:Nat) (w:World):Nat:=((List.range N).filter fun j=> !isT (w.cell? ⟨B1,j,none⟩)).length
def lenV:Value→Nat
 | .slice _ n _=>n
 | _=>0
theorem unseen_le (σ:Nat→Bool) (N:Nat):unseenN σ N≤N:=by
 unfold unseenN
 exact Nat.le_trans (List.length_filter_le _ _) (by simp)
theorem unseen_first (N:Nat):1+2*unseenN (fun _=>false) N≤2*N+1:=by
 have:=unseen_le (fun _=>false) N
 omega
theorem tl_le {T u N:Nat} (h:T+1+2*u≤2*N+1) (hN:N≤8194000):T≤16388000:=by omega
theorem own_capP {w:World} {base:Nat} {e:TypeId} {size n c g:Nat} {xs:List Value} (h:w.ownsRow base e size (.slice (some ⟨g,0,none⟩) n c) n xs):n≤c∧c≤maxLen:=by
 obtain ⟨h1,⟨hv,h0⟩|⟨g',cap,cur,hv,hb,hh,h2,h3,h4,h5⟩⟩:=h
 ·
  cases hv
 ·
  injection hv with _ _ hv3
  subst hv3
  exact ⟨h2,h3⟩
theorem idx_facts {k n L N p:Nat} (s:ByteArray) (hL:L=s.size) (hN:N=n*(L+1)) (hk:k<n) (hp:p≤s.size) (hNle:N≤8194000):∃M:Nat,M+p<N∧(M:Int)+(p:Int)<(N:Int)∧wrap64 ((k:Int)*((s.size:Int)+1))=(M:Int)∧Hid (((k:Int)).toNat*(s.data.toList.length+1)+p=M+p∧k*(s.data.toList.length+1)+p=M+p):=by
 have hl:s.data.toList.length=L:=by rw[hL];simp
 have h1:k*(L+1)+p<N:=by rw[hN];exact idx_lt (by rw[hL];exact hp) hk
 have e:(k:Int)*((s.size:Int)+1)=((k*(L+1):Nat):Int):=by rw[hL];simp
 refine ⟨k*(L+1),h1,?_,?_,Lib.hid ⟨by rw[hl,Int.toNat_natCast],by rw[hl]⟩⟩
 ·
  rw[←Int.natCast_add];exact Int.ofNat_lt.2 h1
 ·
  rw[e]
  generalize k*(L+1)=M at *
  exact IntWalk.wrap64_in (M:Int) (by omega)
theorem Svo.see {wr:World} {B1:Nat} {v s:Value} (h:Svo wr B1 v s) (m:Nat) (u:Value):Svo (wr.setCell ⟨B1,m,none⟩ u) B1 v s:=by
 obtain ⟨a,k,c,e,h0,hk,ha,h1,h2,hc⟩:=h
 refine ⟨a,k,c,e,h0,hk,by simpa using ha,h1,h2,fun j hj=>?_⟩
 obtain ⟨z,hz⟩:=hc j hj
 exact ⟨z,by rw[World.cell?_setCell_other wr ⟨B1,m,none⟩ ⟨a,j,none⟩ _ (by first|(simp;done)|(simp;omega))];exact hz⟩
theorem icl_one (zs:List Int):∀u∈icl zs,u.oneCell'=true:=by
 intro u hu
 simp only[icl,List.mem_map] at hu
 obtain ⟨z,_,rfl⟩:=hu
 rfl
theorem Svo.rd {wr:World} {B1 a ms cs:Nat} {v:Value} (h:Svo wr B1 v (.slice (some ⟨a,0,none⟩) ms cs)):∃zs:List Int,zs.length=ms∧0<ms∧ms≤3000∧Rd wr 1 (some ⟨a,0,none⟩) ms (icl zs):=by
 obtain ⟨a',k,c,e,h0,hk,ha,h1,h2,hc⟩:=h
 injection e with e1 e2 e3
 injection e1 with e1
 injection e1 with e1 e4 e5
 subst e1 e2
 let f:Nat→Int:=fun j=>if hj:j<ms then (hc j hj).choose else 0
 refine ⟨(List.range ms).map f,by simp,h0,hk,by simp[icl],fun _=>⟨⟨a,0,none⟩,rfl,ha,fun j u hu=>?_⟩⟩
 have e:(⟨a,0,none⟩:Addr).add j=⟨a,j,none⟩:=by
  unfold Addr.add;split
  ·
   rename_i h;subst h;rfl
  ·
   rw[Nat.zero_add]
 rw[e]
 have hj:j<ms:=by
  rcases Nat.lt_or_ge j ms with h|h
  ·
   exact h
  ·
   rw[List.getElem?_eq_none (by simp[icl];exact h)] at hu;cases hu
 have hu2:u= .int .i64 (hc j hj).choose:=by
  simp[icl,hj,f] at hu
  exact hu.symm
 rw[hu2]
 exact (hc j hj).choose_spec
theorem PrM.unseen {w:World} {h G n cA B1 N:Nat} {A:Option Addr} {wr:World} {v:Value} {T:List Wy} {σ:Nat→Bool} (I:PrM w h G n cA B1 N A wr v T σ):unseenW B1 N wr=unseenN σ N:=by
 unfold unseenW unseenN
 congr 1
 apply List.filter_congr
 intro j hj
 rw[(I.seen j (List.mem_range.1 hj)).1]
 rfl
theorem top_cells {w:World} {g:Nat} {T0:List Wy} {x:Wy} (h:∀j u,(wyc (T0++[x]))[j]?=some u→w.cell? ⟨g,j,none⟩=some u) :
  w.cell? ⟨g,T0.length*3,none⟩=some (.int .i64 x.pc)∧w.cell? ⟨g,T0.length*3+1,none⟩=some (.int .i64 (x.at':Nat))∧w.cell? ⟨g,T0.length*3+2,none⟩=some x.sv:=by
 have hl:=wyc_length T0
 have k:∀j,(wyc (T0++[x]))[T0.length*3+j]?=(wyc [x])[j]?:=fun j=>by
  rw[wyc_append,List.getElem?_append_right (by omega)]
  congr 1
  omega
 exact ⟨h _ _ (k 0),h _ _ (k 1),h _ _ (k 2)⟩
theorem pr_start {w V wr W0:World} {G n cA B1 N i c1:Nat} {A A1:Option Addr} {arr:Array Value} (gV:Gr w V) (g:Gr V wr) (hz:w.heap.size<V.heap.size) (hB:B1=wr.heap.size) (hW:W0=(wr.alloc (.cells arr 4)).alloc (.cells #[.int .i64 0, .int .i64 i, .slice A1 (2*G+2) c1] 175))
  (c0:wr.cell? ⟨w.heap.size,0,none⟩=some (.int .i64 G)) (c1':wr.cell? ⟨w.heap.size,1,none⟩=some (.slice A n cA)) (ha:∀j,j<N→arr[j]?=some (.bool false)) (hG:G≤1000) (own:wr.ownsRow V.heap.size 3 1 (.slice A1 (2*G+2) c1) (2*G+2) (icl (List.replicate (2*G+2) (-1)))) :
  PrM w w.heap.size G n cA B1 N A W0 (.slice (some ⟨B1+1,0,none⟩) 1 1) [⟨0,i, .slice A1 (2*G+2) c1⟩] (fun _=>false):=by
 subst hB hW
 have hwz:w.heap.size<wr.heap.size:=Nat.lt_of_lt_of_le hz g.size
 have gg:Gr wr ((wr.alloc (.cells arr 4)).alloc (.cells #[.int .i64 0, .int .i64 i, .slice A1 (2*G+2) c1] 175)):=Gr.alloc (Gr.alloc (Gr.refl wr) _) _
 refine ⟨(gV.trans g).trans gg,(Below.cell gg (p:=⟨w.heap.size,0,none⟩) hwz).trans c0,(Below.cell gg (p:=⟨w.heap.size,1,none⟩) hwz).trans c1',fun j hj=>?_,⟨hwz,by simp;omega⟩,?_,fun x hx=>?_⟩
 ·
  have e1:((wr.alloc (.cells arr 4)).alloc (.cells #[.int .i64 0, .int .i64 i, .slice A1 (2*G+2) c1] 175)).heap[wr.heap.size]?=some (.cells arr 4 (0,0)):=by
   rw[heap_alloc_old _ _ (by simp)];exact heap_alloc_new wr _
  constructor
  ·
   exact (cell_of_row _ _ _ _ _ _ e1).trans (ha j hj)
  ·
   go_simp
 ·
  have:=World.ownsRow_lit (base:=wr.heap.size+1) (e:=175) (size:=3) (wr.alloc (.cells arr 4)) #[.int .i64 0, .int .i64 i, .slice A1 (2*G+2) c1] 1 (by simp) (by decide) rfl
  simpa [wyc] using this
 ·
  rw[List.mem_singleton] at hx
  subst hx
  obtain ⟨a,e,hb,hlt,hc⟩:=own_blockU own (by omega)
  refine ⟨a,2*G+2,c1,by rw[e],by omega,by omega,Nat.lt_of_lt_of_le hlt gg.size,by omega,by simp[Value.ownBlock];omega,fun j hj=>⟨-1,?_⟩⟩
  rw[Below.cell gg (p:=⟨a,j,none⟩) hlt]
  exact hc j _ (by simp[icl,hj])
theorem i64_near {x:Int} (h0:0≤x) (h1:x≤1000000000):IntKind.i64.wrap x=x:=IntWalk.i64_in _ (by omega)
theorem near_of {x N:Int} (h:x<N) (h2:N≤8194000):x≤1000000000:=by omega
theorem set_oth {w:World} {B C:Nat} (h:B<C) (m o:Nat) (v:Value):(w.setCell ⟨B,m,none⟩ v).cell? ⟨C,o,none⟩=w.cell? ⟨C,o,none⟩:=
 World.cell?_setCell_other w ⟨B,m,none⟩ ⟨C,o,none⟩ v (by first|(simp;done)|(simp;omega))
theorem set_oth' {w:World} {B C:Nat} (h:C<B) (m o:Nat) (v:Value):(w.setCell ⟨B,m,none⟩ v).cell? ⟨C,o,none⟩=w.cell? ⟨C,o,none⟩:=
 World.cell?_setCell_other w ⟨B,m,none⟩ ⟨C,o,none⟩ v (by first|(simp;done)|(simp;omega))
theorem set_off {w:World} (B:Nat) {m o:Nat} (h:¬o=m) (v:Value):(w.setCell ⟨B,m,none⟩ v).cell? ⟨B,o,none⟩=w.cell? ⟨B,o,none⟩:=
 World.cell?_setCell_other w ⟨B,m,none⟩ ⟨B,o,none⟩ v (by first|(simp;done)|(simp;omega))
def RelPr (code:List In) (t:List UInt8) (i:Nat) (w:World) (h G n cA B1 N:Nat) (A:Option Addr) (v:Value) (wq:World):Prop:=
 ∃(T:List Wy) (σ:Nat→Bool),PrM w h G n cA B1 N A wq v T σ∧PrL code t i σ (T.map Wy.st)∧T.length+2*unseenN σ N≤2*N+1
theorem PrM.own_len {w:World} {h G n cA B1 N:Nat} {A:Option Addr} {wr:World} {v:Value} {T:List Wy} {σ:Nat→Bool} (I:PrM w h G n cA B1 N A wr v T σ):lenV v=T.length:=by
 obtain ⟨h1,⟨hv,h0⟩|⟨g',cap,cur,hv,_⟩⟩:=I.own
 ·
  rw[hv,h0];rfl
 ·
  rw[hv];rfl
theorem PrM.fin {code:List In} {t:List UInt8} {i:Nat} {w:World} {h G n cA B1 N:Nat} {A:Option Addr} {wr w2:World} {v9:Value} {T':List Wy} {T m:Nat} {σ σ':Nat→Bool} (I:PrM w h G n cA B1 N A w2 v9 T' σ') (J:PrL code t i σ' (T'.map Wy.st))
  (hlen:T+1+2*unseenN σ N≤2*N+1) (hUV:unseenN σ' N+1=unseenN σ N) (hmeas:unseenW B1 N wr=unseenN σ N) (hT:T'.length=T+m) (hm:m≤2) :
  RelPr code t i w h G n cA B1 N A v9 w2∧3*unseenW B1 N w2+lenV v9<3*unseenW B1 N wr+(T+1):=by
 refine ⟨⟨T',σ',I,J,by omega⟩,?_⟩
 rw[I.unseen,hmeas,I.own_len]
 omega
theorem PrM.fin0 {code:List In} {t:List UInt8} {i:Nat} {w:World} {h G n cA B1 N:Nat} {A:Option Addr} {wr w2:World} {g c:Nat} {T0:List Wy} {σ:Nat→Bool} (I:PrM w h G n cA B1 N A w2 (.slice (some ⟨g,0,none⟩) T0.length c) T0 σ) (J:PrL code t i σ (T0.map Wy.st))
  (hlen:T0.length+1+2*unseenN σ N≤2*N+1) (hmeas:unseenW B1 N wr=unseenN σ N) :
  RelPr code t i w h G n cA B1 N A (.slice (some ⟨g,0,none⟩) T0.length c) w2∧3*unseenW B1 N w2+T0.length<3*unseenW B1 N wr+(T0.length+1):=by
 refine ⟨⟨T0,σ,I,J,by omega⟩,?_⟩
 rw[I.unseen,hmeas]
 omega
def condOf (n:Nat):Code→Option Code
 | .cond (.tmp k) a b=>if k=n then some (.cond (.tmp k) a b) else match condOf n a with
  | some c=>some c
  | none=>condOf n b
 | .seq a b=>match condOf n a with
  | some c=>some c
  | none=>condOf n b
 | .block _ c=>condOf n c
 | .loop c=>condOf n c
 | .scope c=>condOf n c
 | _=>none
noncomputable def condR (n:Nat):Code:=(((Tryz.f121).body.bind (condOf n)).getD .skip)
theorem arm_1 {G n cA B1 N k p ms cs a g cv Bw Bq M i:Nat} {A:Option Addr} {code:List In} {s:ByteArray} {w wr wC:World} {x y:Int} {ps:List UInt8} {σ:Nat→Bool} {T0:List Wy} {Q:Exit→Act→World→Prop} {c0 c2 c4 c5 c6 c7 c8 c9 c10 c14 c15 c16 c17 c18 c19 c20 c21 c22 c23 c24 c25 c26 c27 c28 c29 c30 c31 c32 c33 c34 c35 c36 c37 c38 c39 c40 c41 c42 c43 c44 c45 c46 c47 c48 c49 c50 c51 c52 c53 c54 c55 c56 c57 c58 c59 c60 c61 c62 c63 c64 c65 c66 c67 c68 c69 c70 c71 c72 c73 c74 c75 c76 c77 c78 c79 c80 c81 c82 c83 c84 c85 c86 c87 c88 c89 c90 c91 c92 c93 c94 c96 c97 c98 c99 c101 c102 c103 c104 c105 c106 c107 c108 c109 c110 c111 c112 c113 c114 c115 c116 c117 c118 c119 c120 c121 c122 c123 c124 c125 c126 c127 c128 c129 c130 c131 c132 c133 c134 c135 c136 c137 c138 c139 c140 c141 c142 c143 c144 c145 c146 c147 c148 c149 c150 c151 c152 c153 c154 c155 c156 c157 c158 c159 c160 c161 c162 c163 c164 c165 c166 c167 c168 c169 c170 c171 c172 c173 c174 c175 c176 c177 c178 c179 c180 c181 c182 c183 c184 c185 c186 c187 c188 c189 c190 c191 c192 c193 c194 c195 c196 c197 c198 c199 c200 c201 c202 c203 c204 c205 c206 c207 c208 c209 c210 c211 c212 c213 c214 c215 c216 c217 c218 c219 c220 c221 c222 c223 c224:Value}
  (HK:Hid (k<code.length)) (HVV:Hid (code[k]'HK.out=⟨(1:Int),x,y,ps⟩)) (HPS:Hid (∀v∈code,v.ps.length≤100000))
  (HVis:Hid (∀T':List (Int×Nat),(code[k]'HK.out).op≠7→succS code s.data.toList k p=T'→PrL code s.data.toList i (fun j=>j==M+p||σ j) (T0.map Wy.st++T')))
  (HFND:Hid ((code[k]'HK.out).op=7→AccS code s.data.toList (· = i)))
  (Hlen:Hid (T0.length+1+2*unseenN σ N≤2*N+1)) (HUV:Hid (unseenN (fun j=>j==M+p||σ j) N+1=unseenN σ N)) (Hmeas:Hid (unseenW B1 N wr=unseenN σ N))
  (HIC:Hid (PrM w w.heap.size G n cA B1 N A wC (.slice (some ⟨g,0,none⟩) T0.length cv) T0 (fun j=>j==M+p||σ j)))
  (HSV4:Hid (Svo wC B1 (.slice (some ⟨g,0,none⟩) T0.length cv) (.slice (some ⟨a,0,none⟩) ms cs)))
  (e0:wC.cell? ⟨Bw,0,none⟩=some (.int .i64 k)) (e1:wC.cell? ⟨Bw,1,none⟩=some (.int .i64 p)) (e2:wC.cell? ⟨Bw,2,none⟩=some (.slice (some ⟨a,0,none⟩) ms cs))
  (q0:wC.cell? ⟨Bq,0,none⟩=some (.int .i64 (1:Int))) (q1:wC.cell? ⟨Bq,1,none⟩=some (.int .i64 x)) (q2:wC.cell? ⟨Bq,2,none⟩=some (.int .i64 y)) (q3:wC.cell? ⟨Bq,3,none⟩=some (.string ⟨ps.toArray⟩))
  (hwC:Bw<wC.heap.size) (hqC:Bq<wC.heap.size) (hBw:B1<Bw) (hgw:g<Bw) (hTi:(T0.length:Int)≤16388000) (hcvi:(T0.length:Int)+1≤(cv:Int)) (hcvm:(cv:Int)≤9223372036854775807)
  (hpi:(p:Int)≤(s.size:Int)) (hp:p≤s.size) (hs:(s.size:Int)≤4096) (hkn:(k:Int)<2000)
  (HQ:Hid (∀(v:Value) (w2:World),RelPr code s.data.toList i w w.heap.size G n cA B1 N A v w2→3*unseenW B1 N w2+lenV v<3*unseenW B1 N wr+(T0.length+1)→∀u14 u96 u97 u98 u99 u100 u101 u102 u103 u104 u105 u106 u107 u108 u109 u110 u111 u112 u113 u114 u115 u116 u117 u118 u119 u120 u121 u122 u123 u124 u125 u126 u127 u128 u129 u130 u131 u132 u133 u134 u135 u136 u137 u138 u139 u140 u141 u142 u143 u144 u145 u146 u147 u148 u149 u150 u151 u152 u153 u154 u155 u156 u157 u158 u159 u160 u161 u162 u163 u164 u165 u166 u167 u168 u169 u170 u171 u172 u173 u174 u175 u176 u177 u178 u179 u180 u181 u182 u183 u184 u185 u186 u187 u188 u189 u190 u191 u192 u193 u194 u195 u196 u197 u198 u199 u200 u201 u202 u203 u204 u205 u206 u207 u208 u209 u210 u211 u212 u213 u214 u215 u216 u217 u218 u219 u220 u221 u222 u223 u224:Value,Q .normal ⟨#[c0, .string s,c2, .pointer (some ⟨w.heap.size,0,none⟩),c4,c5,c6,c7,c8,c9,c10,v, .pointer (some ⟨Bw,0,none⟩), .pointer (some ⟨Bq,0,none⟩),u14,c15,c16,c17,c18,c19,c20,c21,c22,c23,c24,c25,c26,c27,c28,c29,c30,c31,c32,c33,c34,c35,c36,c37,c38,c39,c40,c41,c42,c43,c44,c45,c46,c47,c48,c49,c50,c51,c52,c53,c54,c55,c56,c57,c58,c59,c60,c61,c62,c63,c64,c65,c66,c67,c68,c69,c70,c71,c72,c73,c74,c75,c76,c77,c78,c79,c80,c81,c82,c83,c84,c85,c86,c87,c88,c89,c90,c91,c92,c93,c94, .int .i64 1,u96,u97,u98,u99,u100,u101,u102,u103,u104,u105,u106,u107,u108,u109,u110,u111,u112,u113,u114,u115,u116,u117,u118,u119,u120,u121,u122,u123,u124,u125,u126,u127,u128,u129,u130,u131,u132,u133,u134,u135,u136,u137,u138,u139,u140,u141,u142,u143,u144,u145,u146,u147,u148,u149,u150,u151,u152,u153,u154,u155,u156,u157,u158,u159,u160,u161,u162,u163,u164,u165,u166,u167,u168,u169,u170,u171,u172,u173,u174,u175,u176,u177,u178,u179,u180,u181,u182,u183,u184,u185,u186,u187,u188,u189,u190,u191,u192,u193,u194,u195,u196,u197,u198,u199,u200,u201,u202,u203,u204,u205,u206,u207,u208,u209,u210,u211,u212,u213,u214,u215,u216,u217,u218,u219,u220,u221,u222,u223,u224],[]⟩ w2))
  (HR:Hid ((1:Int)=7→∀u14 u96 u97 u98 u99 u100 u101 u102 u103 u104 u105 u106 u107 u108 u109 u110 u111 u112 u113 u114 u115 u116 u117 u118 u119 u120 u121 u122 u123 u124 u125 u126 u127 u128 u129 u130 u131 u132 u133 u134 u135 u136 u137 u138 u139 u140 u141 u142 u143 u144 u145 u146 u147 u148 u149 u150 u151 u152 u153 u154 u155 u156 u157 u158 u159 u160 u161 u162 u163 u164 u165 u166 u167 u168 u169 u170 u171 u172 u173 u174 u175 u176 u177 u178 u179 u180 u181 u182 u183 u184 u185 u186 u187 u188 u189 u190 u191 u192 u193 u194 u195 u196 u197 u198 u199 u200 u201 u202 u203 u204 u205 u206 u207 u208 u209 u210 u211 u212 u213 u214 u215 u216 u217 u218 u219 u220 u221 u222 u223 u224:Value,Q .ret ⟨#[c0, .string s,c2, .pointer (some ⟨w.heap.size,0,none⟩),c4,c5, .slice (some ⟨a,0,none⟩) ms cs, .bool true,c8,c9,c10, .slice (some ⟨g,0,none⟩) T0.length cv, .pointer (some ⟨Bw,0,none⟩), .pointer (some ⟨Bq,0,none⟩),u14,c15,c16,c17,c18,c19,c20,c21,c22,c23,c24,c25,c26,c27,c28,c29,c30,c31,c32,c33,c34,c35,c36,c37,c38,c39,c40,c41,c42,c43,c44,c45,c46,c47,c48,c49,c50,c51,c52,c53,c54,c55,c56,c57,c58,c59,c60,c61,c62,c63,c64,c65,c66,c67,c68,c69,c70,c71,c72,c73,c74,c75,c76,c77,c78,c79,c80,c81,c82,c83,c84,c85,c86,c87,c88,c89,c90,c91,c92,c93,c94, .int .i64 1,u96,u97,u98,u99,u100,u101,u102,u103,u104,u105,u106,u107,u108,u109,u110,u111,u112,u113,u114,u115,u116,u117,u118,u119,u120,u121,u122,u123,u124,u125,u126,u127,u128,u129,u130,u131,u132,u133,u134,u135,u136,u137,u138,u139,u140,u141,u142,u143,u144,u145,u146,u147,u148,u149,u150,u151,u152,u153,u154,u155,u156,u157,u158,u159,u160,u161,u162,u163,u164,u165,u166,u167,u168,u169,u170,u171,u172,u173,u174,u175,u176,u177,u178,u179,u180,u181,u182,u183,u184,u185,u186,u187,u188,u189,u190,u191,u192,u193,u194,u195,u196,u197,u198,u199,u200,u201,u202,u203,u204,u205,u206,u207,u208,u209,u210,u211,u212,u213,u214,u215,u216,u217,u218,u219,u220,u221,u222,u223,u224],[]⟩ wC)) :
  (condR 100).wp Tryz.prog Q ⟨#[c0, .string s,c2, .pointer (some ⟨w.heap.size,0,none⟩),c4,c5,c6,c7,c8,c9,c10, .slice (some ⟨g,0,none⟩) T0.length cv, .pointer (some ⟨Bw,0,none⟩), .pointer (some ⟨Bq,0,none⟩),c14,c15,c16,c17,c18,c19,c20,c21,c22,c23,c24,c25,c26,c27,c28,c29,c30,c31,c32,c33,c34,c35,c36,c37,c38,c39,c40,c41,c42,c43,c44,c45,c46,c47,c48,c49,c50,c51,c52,c53,c54,c55,c56,c57,c58,c59,c60,c61,c62,c63,c64,c65,c66,c67,c68,c69,c70,c71,c72,c73,c74,c75,c76,c77,c78,c79,c80,c81,c82,c83,c84,c85,c86,c87,c88,c89,c90,c91,c92,c93,c94, .int .i64 1,c96,c97,c98,c99, .bool true,c101,c102,c103,c104,c105,c106,c107,c108,c109,c110,c111,c112,c113,c114,c115,c116,c117,c118,c119,c120,c121,c122,c123,c124,c125,c126,c127,c128,c129,c130,c131,c132,c133,c134,c135,c136,c137,c138,c139,c140,c141,c142,c143,c144,c145,c146,c147,c148,c149,c150,c151,c152,c153,c154,c155,c156,c157,c158,c159,c160,c161,c162,c163,c164,c165,c166,c167,c168,c169,c170,c171,c172,c173,c174,c175,c176,c177,c178,c179,c180,c181,c182,c183,c184,c185,c186,c187,c188,c189,c190,c191,c192,c193,c194,c195,c196,c197,c198,c199,c200,c201,c202,c203,c204,c205,c206,c207,c208,c209,c210,c211,c212,c213,c214,c215,c216,c217,c218,c219,c220,c221,c222,c223,c224],[]⟩ wC:=by
 obtain ⟨j0,hj0,jz0,jz1,jz2⟩:=info_parts info_int12
 obtain ⟨i0,hi0,hz0,hz1,hz2⟩:=info_parts info_way12
 have hhz:w.heap.size<wC.heap.size:=Nat.lt_trans HIC.out.hB.1 HIC.out.hB.2
 obtain ⟨b0,b1⟩:=And.intro HIC.out.b0 HIC.out.b1
 conv=>arg 2;whnf
 by_cases hps:p<s.size
 ·
  have hpi2:(p:Int)<(s.size:Int):=by omega
  have hdec:decide ((p:Int)<(s.size:Int))=true:=decide_eq_true hpi2
  obtain ⟨hb,hhb⟩:∃hb,hb=hasS ps (s[p].toNat:Int):=⟨_,rfl⟩
  have HHC:=fun W=>rhas_any ⟨ps.toArray⟩ (by have:=HPS.out _ (List.getElem_mem HK.out);rw[HVV.out] at this;simp only at this;show ((ps.toArray.size:Nat):Int)≤_;rw[List.size_toArray];omega) (s[p].toNat:Int) W
  rw[show (⟨ps.toArray⟩:ByteArray).data.toList=ps from rfl,←hhb] at HHC
  have HHH:Hid (∀W,Calls Tryz.prog 135 #[.string ⟨ps.toArray⟩, .int .u8 (s[p].toNat:Int)] W (fun e w'=>e= .returned (.bool hb)∧Gr W w')):=Lib.hid fun W=>(HHC W).mono fun e w' h=>⟨h.1,by rw[←h.2];exact Gr.refl _⟩
  have hps3:p<s.data.toList.length:=by simpa using hps
  have HSU:Hid (succS code s.data.toList k p=if hb=true then [((k:Int)+1,p+1)] else []):=Lib.hid (by
   rw[succS_at HK.out,HVV.out,if_pos rfl,dif_pos hps3,hhb]
   rfl)
  clear hhb HHC hps3
  go_upto_region 18 with (fail)
  refine region_R (by kernel_rfl) (by kernel_rfl) ?_
  refine rv ?_;simp only[Pu]
  refine r_val (v:=?qv2) (by kernel_rfl) (fun W hW=>?qh2) ?qr2
  case qh2=>have g1:=(Below.cell hW (p:=⟨Bw,1,none⟩) hwC).trans e1;go_light;go_simp;rfl
  simp only[Pu]
  iterate 5 (refine rv ?_;simp only[Pu])
  refine r_val (v:=?qv8) (by kernel_rfl) (fun W hW=>?qh8) ?qr8
  case qh8=>have g1:=(Below.cell hW (p:=⟨Bq,3,none⟩) hqC).trans q3;go_light;go_simp;rfl
  simp only[Pu]
  iterate 2 (refine rv ?_;simp only[Pu])
  refine r_val (v:=?qv11) (by kernel_rfl) (fun W hW=>?qh11) ?qr11
  case qh11=>have g1:=(Below.cell hW (p:=⟨Bw,1,none⟩) hwC).trans e1;go_light;go_simp;rfl
  simp only[Pu]
  refine rv ?_;simp only[Pu]
  refine r_call (v:= .bool hb) (f:=?qf13) (args:=?qa13) (by kernel_rfl) (fun W hW=>?qh13) (fun W hW=>?qc13) ?qr13
  case qh13=>go_light;go_simp;constructor<;>rfl
  case qc13=>exact (HHH.out W).mono (fun e w' h=>⟨h.1,Gr.trans hW h.2⟩)
  simp only[Pu]
  refine rv ?_;simp only[Pu]
  refine r_nil ?_
  intro w8 hw8
  have HI8:=Lib.hid (HIC.out.gr' hw8)
  have HS8:=Lib.hid (HSV4.out.gr hw8)
  have e0b:=(Below.cell hw8 (p:=⟨Bw,0,none⟩) hwC).trans e0
  have e1b:=(Below.cell hw8 (p:=⟨Bw,1,none⟩) hwC).trans e1
  have e2b:=(Below.cell hw8 (p:=⟨Bw,2,none⟩) hwC).trans e2
  clear e0 e1 e2 q0 q1 q2 q3 hw8 b0 b1 HHH hps
  cases hb with
  | true=>
   have hv0:=own_grU HI8.out.own (Gr.alloc (Gr.refl w8) (.cells ([.int .i64 ((k:Int)+1), .int .i64 ((p:Int)+1), .slice (some ⟨a,0,none⟩) ms cs]:List Value).toArray 175))
   have hvl:=HI8.out.own.lt
   have hrx:Rd (w8.alloc (.cells ([.int .i64 ((k:Int)+1), .int .i64 ((p:Int)+1), .slice (some ⟨a,0,none⟩) ms cs]:List Value).toArray 175)) 3 (some ⟨w8.heap.size,0,none⟩) 1 ([.int .i64 ((k:Int)+1), .int .i64 ((p:Int)+1), .slice (some ⟨a,0,none⟩) ms cs]:List Value):=Rd.newU (W:=w8) rfl 175 ([.int .i64 ((k:Int)+1), .int .i64 ((p:Int)+1), .slice (some ⟨a,0,none⟩) ms cs]:List Value) rfl
   have hszC:=HI8.out.hB.2
   go_wp2_with (at_builtin;refine wpList_append_rd rfl (.tmp 116) (.tmp 126) 176 rfl (B1+1) 175 i0 _ 3 40 Tryz.underlying176 hi0 hz0 hz1 hz2 rfl (by decide) _ _ _ rfl hv0 (some ⟨w8.heap.size,0,none⟩) 1 _ [.int .i64 ((k:Int)+1), .int .i64 ((p:Int)+1), .slice (some ⟨a,0,none⟩) ms cs] rfl hrx (by simp[Value.oneCell']) (by unfold maxLen;omega) (by omega) (by simp;omega) ?_;intro v9 w2 hown2 hgr2 hat2)
   have I2:=HI8.out.push (Nat.le_refl _) (news:=[⟨(k:Int)+1,p+1, .slice (some ⟨a,0,none⟩) ms cs⟩]) (fun z hz=>by simp only[List.mem_cons,List.not_mem_nil,or_false] at hz;rcases hz with rfl<;>exact HS8.out) (by simpa [wyc] using hown2) hgr2 hat2
   have HF:=Lib.hid (I2.fin (m:=1) (by rw[List.map_append];exact HVis.out _ (by rw[HVV.out];simp) (by rw[HSU.out];rfl)) Hlen.out HUV.out Hmeas.out (by rw[List.length_append];rfl) (by decide))
   clear hv0 hvl hgr2 hat2 hrx hown2 I2
   go_wp2
   exact HQ.out _ _ HF.out.1 HF.out.2 _ _ _ _ _ _ _ _ _ _ _ _ _ _ _ _ _ _ _ _ _ _ _ _ _ _ _ _ _ _ _ _ _ _ _ _ _ _ _ _ _ _ _ _ _ _ _ _ _ _ _ _ _ _ _ _ _ _ _ _ _ _ _ _ _ _ _ _ _ _ _ _ _ _ _ _ _ _ _ _ _ _ _ _ _ _ _ _ _ _ _ _ _ _ _ _ _ _ _ _ _ _ _ _ _ _ _ _ _ _ _ _ _ _ _ _ _ _ _ _ _ _ _ _ _ _ _ _ _ _
  | false=>
   have HF:=Lib.hid (HI8.out.fin (m:=0) (by have:=HVis.out [] (by rw[HVV.out];simp[*]) (by rw[HSU.out];rfl);rwa [List.append_nil] at this) Hlen.out HUV.out Hmeas.out rfl (by decide))
   go_wp2
   exact HQ.out _ _ HF.out.1 HF.out.2 _ _ _ _ _ _ _ _ _ _ _ _ _ _ _ _ _ _ _ _ _ _ _ _ _ _ _ _ _ _ _ _ _ _ _ _ _ _ _ _ _ _ _ _ _ _ _ _ _ _ _ _ _ _ _ _ _ _ _ _ _ _ _ _ _ _ _ _ _ _ _ _ _ _ _ _ _ _ _ _ _ _ _ _ _ _ _ _ _ _ _ _ _ _ _ _ _ _ _ _ _ _ _ _ _ _ _ _ _ _ _ _ _ _ _ _ _ _ _ _ _ _ _ _ _ _ _ _ _ _
 ·
  have hdec:decide ((p:Int)<(s.size:Int))=false:=decide_eq_false (by omega)
  have HSU:Hid (succS code s.data.toList k p=[]):=Lib.hid (by
   rw[succS_at HK.out,HVV.out,if_pos rfl,dif_neg (by simpa using hps)])
  go_upto_region 18 with (fail)
  refine region_R (by kernel_rfl) (by kernel_rfl) ?_
  refine rv ?_;simp only[Pu]
  refine r_val (v:=?qv16) (by kernel_rfl) (fun W hW=>?qh16) ?qr16
  case qh16=>have g1:=(Below.cell hW (p:=⟨Bw,1,none⟩) hwC).trans e1;go_light;go_simp;rfl
  simp only[Pu]
  iterate 4 (refine rv ?_;simp only[Pu])
  iterate 7 (refine rs ?_;simp only[Pu])
  refine rv ?_;simp only[Pu]
  refine r_nil ?_
  intro w8 hw8
  have HI8:=Lib.hid (HIC.out.gr' hw8)
  clear e0 e1 e2 q0 q1 q2 q3 hw8 b0 b1 hps
  have HF:=Lib.hid (HI8.out.fin (m:=0) (by have:=HVis.out [] (by rw[HVV.out];simp[*]) (by rw[HSU.out]);rwa [List.append_nil] at this) Hlen.out HUV.out Hmeas.out rfl (by decide))
  go_wp2
  exact HQ.out _ _ HF.out.1 HF.out.2 _ _ _ _ _ _ _ _ _ _ _ _ _ _ _ _ _ _ _ _ _ _ _ _ _ _ _ _ _ _ _ _ _ _ _ _ _ _ _ _ _ _ _ _ _ _ _ _ _ _ _ _ _ _ _ _ _ _ _ _ _ _ _ _ _ _ _ _ _ _ _ _ _ _ _ _ _ _ _ _ _ _ _ _ _ _ _ _ _ _ _ _ _ _ _ _ _ _ _ _ _ _ _ _ _ _ _ _ _ _ _ _ _ _ _ _ _ _ _ _ _ _ _ _ _ _ _ _ _ _
theorem arm_4 {G n cA B1 N k p ms cs a g cv Bw Bq M i:Nat} {A:Option Addr} {code:List In} {s:ByteArray} {w wr wC:World} {x y:Int} {ps:List UInt8} {σ:Nat→Bool} {T0:List Wy} {Q:Exit→Act→World→Prop} {c0 c2 c4 c5 c6 c7 c8 c9 c10 c14 c15 c16 c17 c18 c19 c20 c21 c22 c23 c24 c25 c26 c27 c28 c29 c30 c31 c32 c33 c34 c35 c36 c37 c38 c39 c40 c41 c42 c43 c44 c45 c46 c47 c48 c49 c50 c51 c52 c53 c54 c55 c56 c57 c58 c59 c60 c61 c62 c63 c64 c65 c66 c67 c68 c69 c70 c71 c72 c73 c74 c75 c76 c77 c78 c79 c80 c81 c82 c83 c84 c85 c86 c87 c88 c89 c90 c91 c92 c93 c94 c96 c97 c98 c99 c100 c101 c102 c103 c104 c105 c106 c107 c108 c109 c110 c111 c112 c113 c114 c115 c116 c117 c118 c119 c120 c121 c122 c123 c124 c125 c126 c127 c128 c129 c130 c131 c132 c133 c134 c135 c136 c137 c138 c139 c140 c141 c142 c143 c144 c145 c146 c147 c148 c149 c150 c151 c152 c153 c154 c155 c156 c157 c158 c160 c161 c162 c163 c164 c165 c166 c167 c168 c169 c170 c171 c172 c173 c174 c175 c176 c177 c178 c179 c180 c181 c182 c183 c184 c185 c186 c187 c188 c189 c190 c191 c192 c193 c194 c195 c196 c197 c198 c199 c200 c201 c202 c203 c204 c205 c206 c207 c208 c209 c210 c211 c212 c213 c214 c215 c216 c217 c218 c219 c220 c221 c222 c223 c224:Value}
  (HK:Hid (k<code.length)) (HVV:Hid (code[k]'HK.out=⟨(4:Int),x,y,ps⟩)) (HPS:Hid (∀v∈code,v.ps.length≤100000))
  (HVis:Hid (∀T':List (Int×Nat),(code[k]'HK.out).op≠7→succS code s.data.toList k p=T'→PrL code s.data.toList i (fun j=>j==M+p||σ j) (T0.map Wy.st++T')))
  (HFND:Hid ((code[k]'HK.out).op=7→AccS code s.data.toList (· = i)))
  (Hlen:Hid (T0.length+1+2*unseenN σ N≤2*N+1)) (HUV:Hid (unseenN (fun j=>j==M+p||σ j) N+1=unseenN σ N)) (Hmeas:Hid (unseenW B1 N wr=unseenN σ N))
  (HIC:Hid (PrM w w.heap.size G n cA B1 N A wC (.slice (some ⟨g,0,none⟩) T0.length cv) T0 (fun j=>j==M+p||σ j)))
  (HSV4:Hid (Svo wC B1 (.slice (some ⟨g,0,none⟩) T0.length cv) (.slice (some ⟨a,0,none⟩) ms cs)))
  (e0:wC.cell? ⟨Bw,0,none⟩=some (.int .i64 k)) (e1:wC.cell? ⟨Bw,1,none⟩=some (.int .i64 p)) (e2:wC.cell? ⟨Bw,2,none⟩=some (.slice (some ⟨a,0,none⟩) ms cs))
  (q0:wC.cell? ⟨Bq,0,none⟩=some (.int .i64 (4:Int))) (q1:wC.cell? ⟨Bq,1,none⟩=some (.int .i64 x)) (q2:wC.cell? ⟨Bq,2,none⟩=some (.int .i64 y)) (q3:wC.cell? ⟨Bq,3,none⟩=some (.string ⟨ps.toArray⟩))
  (hwC:Bw<wC.heap.size) (hqC:Bq<wC.heap.size) (hBw:B1<Bw) (hgw:g<Bw) (hTi:(T0.length:Int)≤16388000) (hcvi:(T0.length:Int)+1≤(cv:Int)) (hcvm:(cv:Int)≤9223372036854775807)
  (hpi:(p:Int)≤(s.size:Int)) (hp:p≤s.size) (hs:(s.size:Int)≤4096) (hkn:(k:Int)<2000)
  (HQ:Hid (∀(v:Value) (w2:World),RelPr code s.data.toList i w w.heap.size G n cA B1 N A v w2→3*unseenW B1 N w2+lenV v<3*unseenW B1 N wr+(T0.length+1)→∀u14 u96 u97 u98 u99 u100 u101 u102 u103 u104 u105 u106 u107 u108 u109 u110 u111 u112 u113 u114 u115 u116 u117 u118 u119 u120 u121 u122 u123 u124 u125 u126 u127 u128 u129 u130 u131 u132 u133 u134 u135 u136 u137 u138 u139 u140 u141 u142 u143 u144 u145 u146 u147 u148 u149 u150 u151 u152 u153 u154 u155 u156 u157 u158 u159 u160 u161 u162 u163 u164 u165 u166 u167 u168 u169 u170 u171 u172 u173 u174 u175 u176 u177 u178 u179 u180 u181 u182 u183 u184 u185 u186 u187 u188 u189 u190 u191 u192 u193 u194 u195 u196 u197 u198 u199 u200 u201 u202 u203 u204 u205 u206 u207 u208 u209 u210 u211 u212 u213 u214 u215 u216 u217 u218 u219 u220 u221 u222 u223 u224:Value,Q .normal ⟨#[c0, .string s,c2, .pointer (some ⟨w.heap.size,0,none⟩),c4,c5,c6,c7,c8,c9,c10,v, .pointer (some ⟨Bw,0,none⟩), .pointer (some ⟨Bq,0,none⟩),u14,c15,c16,c17,c18,c19,c20,c21,c22,c23,c24,c25,c26,c27,c28,c29,c30,c31,c32,c33,c34,c35,c36,c37,c38,c39,c40,c41,c42,c43,c44,c45,c46,c47,c48,c49,c50,c51,c52,c53,c54,c55,c56,c57,c58,c59,c60,c61,c62,c63,c64,c65,c66,c67,c68,c69,c70,c71,c72,c73,c74,c75,c76,c77,c78,c79,c80,c81,c82,c83,c84,c85,c86,c87,c88,c89,c90,c91,c92,c93,c94, .int .i64 4,u96,u97,u98,u99,u100,u101,u102,u103,u104,u105,u106,u107,u108,u109,u110,u111,u112,u113,u114,u115,u116,u117,u118,u119,u120,u121,u122,u123,u124,u125,u126,u127,u128,u129,u130,u131,u132,u133,u134,u135,u136,u137,u138,u139,u140,u141,u142,u143,u144,u145,u146,u147,u148,u149,u150,u151,u152,u153,u154,u155,u156,u157,u158,u159,u160,u161,u162,u163,u164,u165,u166,u167,u168,u169,u170,u171,u172,u173,u174,u175,u176,u177,u178,u179,u180,u181,u182,u183,u184,u185,u186,u187,u188,u189,u190,u191,u192,u193,u194,u195,u196,u197,u198,u199,u200,u201,u202,u203,u204,u205,u206,u207,u208,u209,u210,u211,u212,u213,u214,u215,u216,u217,u218,u219,u220,u221,u222,u223,u224],[]⟩ w2))
  (HR:Hid ((4:Int)=7→∀u14 u96 u97 u98 u99 u100 u101 u102 u103 u104 u105 u106 u107 u108 u109 u110 u111 u112 u113 u114 u115 u116 u117 u118 u119 u120 u121 u122 u123 u124 u125 u126 u127 u128 u129 u130 u131 u132 u133 u134 u135 u136 u137 u138 u139 u140 u141 u142 u143 u144 u145 u146 u147 u148 u149 u150 u151 u152 u153 u154 u155 u156 u157 u158 u159 u160 u161 u162 u163 u164 u165 u166 u167 u168 u169 u170 u171 u172 u173 u174 u175 u176 u177 u178 u179 u180 u181 u182 u183 u184 u185 u186 u187 u188 u189 u190 u191 u192 u193 u194 u195 u196 u197 u198 u199 u200 u201 u202 u203 u204 u205 u206 u207 u208 u209 u210 u211 u212 u213 u214 u215 u216 u217 u218 u219 u220 u221 u222 u223 u224:Value,Q .ret ⟨#[c0, .string s,c2, .pointer (some ⟨w.heap.size,0,none⟩),c4,c5, .slice (some ⟨a,0,none⟩) ms cs, .bool true,c8,c9,c10, .slice (some ⟨g,0,none⟩) T0.length cv, .pointer (some ⟨Bw,0,none⟩), .pointer (some ⟨Bq,0,none⟩),u14,c15,c16,c17,c18,c19,c20,c21,c22,c23,c24,c25,c26,c27,c28,c29,c30,c31,c32,c33,c34,c35,c36,c37,c38,c39,c40,c41,c42,c43,c44,c45,c46,c47,c48,c49,c50,c51,c52,c53,c54,c55,c56,c57,c58,c59,c60,c61,c62,c63,c64,c65,c66,c67,c68,c69,c70,c71,c72,c73,c74,c75,c76,c77,c78,c79,c80,c81,c82,c83,c84,c85,c86,c87,c88,c89,c90,c91,c92,c93,c94, .int .i64 4,u96,u97,u98,u99,u100,u101,u102,u103,u104,u105,u106,u107,u108,u109,u110,u111,u112,u113,u114,u115,u116,u117,u118,u119,u120,u121,u122,u123,u124,u125,u126,u127,u128,u129,u130,u131,u132,u133,u134,u135,u136,u137,u138,u139,u140,u141,u142,u143,u144,u145,u146,u147,u148,u149,u150,u151,u152,u153,u154,u155,u156,u157,u158,u159,u160,u161,u162,u163,u164,u165,u166,u167,u168,u169,u170,u171,u172,u173,u174,u175,u176,u177,u178,u179,u180,u181,u182,u183,u184,u185,u186,u187,u188,u189,u190,u191,u192,u193,u194,u195,u196,u197,u198,u199,u200,u201,u202,u203,u204,u205,u206,u207,u208,u209,u210,u211,u212,u213,u214,u215,u216,u217,u218,u219,u220,u221,u222,u223,u224],[]⟩ wC)) :
  (condR 159).wp Tryz.prog Q ⟨#[c0, .string s,c2, .pointer (some ⟨w.heap.size,0,none⟩),c4,c5,c6,c7,c8,c9,c10, .slice (some ⟨g,0,none⟩) T0.length cv, .pointer (some ⟨Bw,0,none⟩), .pointer (some ⟨Bq,0,none⟩),c14,c15,c16,c17,c18,c19,c20,c21,c22,c23,c24,c25,c26,c27,c28,c29,c30,c31,c32,c33,c34,c35,c36,c37,c38,c39,c40,c41,c42,c43,c44,c45,c46,c47,c48,c49,c50,c51,c52,c53,c54,c55,c56,c57,c58,c59,c60,c61,c62,c63,c64,c65,c66,c67,c68,c69,c70,c71,c72,c73,c74,c75,c76,c77,c78,c79,c80,c81,c82,c83,c84,c85,c86,c87,c88,c89,c90,c91,c92,c93,c94, .int .i64 4,c96,c97,c98,c99,c100,c101,c102,c103,c104,c105,c106,c107,c108,c109,c110,c111,c112,c113,c114,c115,c116,c117,c118,c119,c120,c121,c122,c123,c124,c125,c126,c127,c128,c129,c130,c131,c132,c133,c134,c135,c136,c137,c138,c139,c140,c141,c142,c143,c144,c145,c146,c147,c148,c149,c150,c151,c152,c153,c154,c155,c156,c157,c158, .bool true,c160,c161,c162,c163,c164,c165,c166,c167,c168,c169,c170,c171,c172,c173,c174,c175,c176,c177,c178,c179,c180,c181,c182,c183,c184,c185,c186,c187,c188,c189,c190,c191,c192,c193,c194,c195,c196,c197,c198,c199,c200,c201,c202,c203,c204,c205,c206,c207,c208,c209,c210,c211,c212,c213,c214,c215,c216,c217,c218,c219,c220,c221,c222,c223,c224],[]⟩ wC:=by
 obtain ⟨j0,hj0,jz0,jz1,jz2⟩:=info_parts info_int12
 obtain ⟨i0,hi0,hz0,hz1,hz2⟩:=info_parts info_way12
 have hhz:w.heap.size<wC.heap.size:=Nat.lt_trans HIC.out.hB.1 HIC.out.hB.2
 obtain ⟨b0,b1⟩:=And.intro HIC.out.b0 HIC.out.b1
 conv=>arg 2;whnf
 obtain ⟨zs,hzl,hm0,hm3,hzr⟩:=HSV4.out.rd
 have hrx:=hzr.gr (Gr.alloc (Gr.refl wC) (.cells #[] 3))
 have hv0:(wC.alloc (.cells #[] 3)).ownsRow wC.heap.size 3 1 (.slice (some ⟨wC.heap.size,0,none⟩) 0 0) 0 []:=World.ownsRow_lit wC #[] 0 (Nat.le_refl _) (Nat.zero_le _) rfl
 have hmi:(ms:Int)≤3000:=by omega
 have hszC:=HIC.out.hB.2
 go_upto_region 26 with (at_builtin;refine wpList_append_rd rfl (.tmp 161) (.tmp 163) 87 rfl wC.heap.size 3 j0 _ 1 8 Tryz.underlying87 hj0 jz0 jz1 jz2 rfl (by decide) _ _ _ rfl hv0 (some ⟨a,0,none⟩) ms _ (icl zs) rfl hrx (icl_one zs) (by unfold maxLen;omega) (by omega) (by simp) ?_;intro v3 w3 hown3 hgr3 hat3)
 rw[Nat.zero_add,List.nil_append] at hown3
 obtain ⟨A3,c3,hv3⟩:=own_form hown3
 subst hv3
 obtain ⟨b3,rfl,hb3,hb3z,hcells⟩:=own_blockU hown3 hm0
 have g3:Gr wC w3:=Gr.grown (Gr.alloc (Gr.refl wC) _) hgr3 (fun k hk=>(hv0.lt k hk).1)
 have HI3:=Lib.hid (HIC.out.gr' g3)
 have e0b:=(Below.cell g3 (p:=⟨Bw,0,none⟩) hwC).trans e0
 have e1b:=(Below.cell g3 (p:=⟨Bw,1,none⟩) hwC).trans e1
 have q1b:=(Below.cell g3 (p:=⟨Bq,1,none⟩) hqC).trans q1
 have hbow:some b3≠(Value.slice (some ⟨g,0,none⟩) T0.length cv).ownBlock:=by
  have:=HIC.out.own.lt g rfl
  simp[Value.ownBlock]
  omega
 have HO3:=Lib.hid hown3
 have Hc3:=Lib.hid hcells
 have hbB:b3≠B1:=by omega
 have hwb3:Bw<b3:=by omega
 clear hv0 hrx hzr hgr3 hat3 hown3 hcells e0 e1 e2 q0 q1 q2 q3 b0 b1
 by_cases hx:0≤x∧x<(ms:Int)
 ·
  obtain ⟨X,rfl⟩:∃X:Nat,x=X:=⟨x.toNat,by omega⟩
  have hX:X<ms:=by omega
  have hXi:(X:Int)<(ms:Int):=by omega
  have cX:w3.cell? ⟨b3,X,none⟩=some (.int .i64 (zs[X]'(by omega))):=Hc3.out X _ (by simp[icl,hzl,hX])
  have fX:=HO3.out.frozenAt X
  have I4:=HIC.out.gr' (g3.setCell (p:=⟨b3,X,none⟩) hb3 (.int .i64 p))
  have S4:Svo (w3.setCell ⟨b3,X,none⟩ (.int .i64 p)) B1 (.slice (some ⟨g,0,none⟩) T0.length cv) (.slice (some ⟨b3,0,none⟩) ms c3):=⟨b3,ms,c3,rfl,hm0,hm3,by simpa using hb3z,hbB,hbow,fun j hj=>by
   by_cases e:j=X
   ·
    subst e;exact ⟨p,World.cell?_setCell_same' _ _ _ (by rw[cX];rfl)⟩
   ·
    refine ⟨zs[j]'(by omega),?_⟩
    rw[set_off (w:=w3) b3 e (.int .i64 p)]
    exact Hc3.out j _ (by simp[icl,hzl,hj])⟩
  have e0c:=(set_oth' (w:=w3) hwb3 X 0 (.int .i64 p)).trans e0b
  have e1c:=(set_oth' (w:=w3) hwb3 X 1 (.int .i64 p)).trans e1b
  go_upto_region 28 with (fail)
  generalize w3.setCell ⟨b3,X,none⟩ (.int .i64 p)=w4 at I4 S4 e0c e1c ⊢
  have HI4:=Lib.hid I4
  have HS4:=Lib.hid S4
  clear I4 S4 e0b e1b q1b cX fX hx
  have hv0:=own_grU HI4.out.own (Gr.alloc (Gr.refl w4) (.cells ([.int .i64 ((k:Int)+1), .int .i64 (p:Int), .slice (some ⟨b3,0,none⟩) ms c3]:List Value).toArray 175))
  have hvl:=HI4.out.own.lt
  have hrx:Rd (w4.alloc (.cells ([.int .i64 ((k:Int)+1), .int .i64 (p:Int), .slice (some ⟨b3,0,none⟩) ms c3]:List Value).toArray 175)) 3 (some ⟨w4.heap.size,0,none⟩) 1 ([.int .i64 ((k:Int)+1), .int .i64 (p:Int), .slice (some ⟨b3,0,none⟩) ms c3]:List Value):=Rd.newU (W:=w4) rfl 175 ([.int .i64 ((k:Int)+1), .int .i64 (p:Int), .slice (some ⟨b3,0,none⟩) ms c3]:List Value) rfl
  have hszC:=HI4.out.hB.2
  go_wp2_with (at_builtin;refine wpList_append_rd rfl (.tmp 181) (.tmp 189) 176 rfl (B1+1) 175 i0 _ 3 40 Tryz.underlying176 hi0 hz0 hz1 hz2 rfl (by decide) _ _ _ rfl hv0 (some ⟨w4.heap.size,0,none⟩) 1 _ [.int .i64 ((k:Int)+1), .int .i64 (p:Int), .slice (some ⟨b3,0,none⟩) ms c3] rfl hrx (by simp[Value.oneCell']) (by unfold maxLen;omega) (by omega) (by simp;omega) ?_;intro v9 w2 hown2 hgr2 hat2)
  have I2:=HI4.out.push (Nat.le_refl _) (news:=[⟨(k:Int)+1,p, .slice (some ⟨b3,0,none⟩) ms c3⟩]) (fun z hz=>by simp only[List.mem_cons,List.not_mem_nil,or_false] at hz;rcases hz with rfl<;>exact HS4.out) (by simpa [wyc] using hown2) hgr2 hat2
  have HF:=Lib.hid (I2.fin (m:=1) (by rw[List.map_append];exact HVis.out _ (by rw[HVV.out];simp) (by rw[succS_at HK.out,HVV.out];simp[Wy.st])) Hlen.out HUV.out Hmeas.out (by rw[List.length_append];rfl) (by decide))
  clear hv0 hvl hgr2 hat2 hrx hown2 I2
  go_wp2
  exact HQ.out _ _ HF.out.1 HF.out.2 _ _ _ _ _ _ _ _ _ _ _ _ _ _ _ _ _ _ _ _ _ _ _ _ _ _ _ _ _ _ _ _ _ _ _ _ _ _ _ _ _ _ _ _ _ _ _ _ _ _ _ _ _ _ _ _ _ _ _ _ _ _ _ _ _ _ _ _ _ _ _ _ _ _ _ _ _ _ _ _ _ _ _ _ _ _ _ _ _ _ _ _ _ _ _ _ _ _ _ _ _ _ _ _ _ _ _ _ _ _ _ _ _ _ _ _ _ _ _ _ _ _ _ _ _ _ _ _ _ _
 ·
  have S4:Svo w3 B1 (.slice (some ⟨g,0,none⟩) T0.length cv) (.slice (some ⟨b3,0,none⟩) ms c3):=⟨b3,ms,c3,rfl,hm0,hm3,hb3z,hbB,hbow,fun j hj=>⟨zs[j]'(by omega),Hc3.out j _ (by simp[icl,hzl,hj])⟩⟩
  have HS4:=Lib.hid S4
  clear S4
  by_cases hx0:0≤x
  ·
   have hx1:¬x<(ms:Int):=fun h=>hx ⟨hx0,h⟩
   clear hx
   go_upto_region 28 with (fail)
   have hv0:=own_grU HI3.out.own (Gr.alloc (Gr.refl w3) (.cells ([.int .i64 ((k:Int)+1), .int .i64 (p:Int), .slice (some ⟨b3,0,none⟩) ms c3]:List Value).toArray 175))
   have hvl:=HI3.out.own.lt
   have hrx:Rd (w3.alloc (.cells ([.int .i64 ((k:Int)+1), .int .i64 (p:Int), .slice (some ⟨b3,0,none⟩) ms c3]:List Value).toArray 175)) 3 (some ⟨w3.heap.size,0,none⟩) 1 ([.int .i64 ((k:Int)+1), .int .i64 (p:Int), .slice (some ⟨b3,0,none⟩) ms c3]:List Value):=Rd.newU (W:=w3) rfl 175 ([.int .i64 ((k:Int)+1), .int .i64 (p:Int), .slice (some ⟨b3,0,none⟩) ms c3]:List Value) rfl
   have hszC:=HI3.out.hB.2
   go_wp2_with (at_builtin;refine wpList_append_rd rfl (.tmp 181) (.tmp 189) 176 rfl (B1+1) 175 i0 _ 3 40 Tryz.underlying176 hi0 hz0 hz1 hz2 rfl (by decide) _ _ _ rfl hv0 (some ⟨w3.heap.size,0,none⟩) 1 _ [.int .i64 ((k:Int)+1), .int .i64 (p:Int), .slice (some ⟨b3,0,none⟩) ms c3] rfl hrx (by simp[Value.oneCell']) (by unfold maxLen;omega) (by omega) (by simp;omega) ?_;intro v9 w2 hown2 hgr2 hat2)
   have I2:=HI3.out.push (Nat.le_refl _) (news:=[⟨(k:Int)+1,p, .slice (some ⟨b3,0,none⟩) ms c3⟩]) (fun z hz=>by simp only[List.mem_cons,List.not_mem_nil,or_false] at hz;rcases hz with rfl<;>exact HS4.out) (by simpa [wyc] using hown2) hgr2 hat2
   have HF:=Lib.hid (I2.fin (m:=1) (by rw[List.map_append];exact HVis.out _ (by rw[HVV.out];simp) (by rw[succS_at HK.out,HVV.out];simp[Wy.st])) Hlen.out HUV.out Hmeas.out (by rw[List.length_append];rfl) (by decide))
   clear hv0 hvl hgr2 hat2 hrx hown2 I2
   go_wp2
   exact HQ.out _ _ HF.out.1 HF.out.2 _ _ _ _ _ _ _ _ _ _ _ _ _ _ _ _ _ _ _ _ _ _ _ _ _ _ _ _ _ _ _ _ _ _ _ _ _ _ _ _ _ _ _ _ _ _ _ _ _ _ _ _ _ _ _ _ _ _ _ _ _ _ _ _ _ _ _ _ _ _ _ _ _ _ _ _ _ _ _ _ _ _ _ _ _ _ _ _ _ _ _ _ _ _ _ _ _ _ _ _ _ _ _ _ _ _ _ _ _ _ _ _ _ _ _ _ _ _ _ _ _ _ _ _ _ _ _ _ _ _
  ·
   clear hx
   go_upto_region 28 with (fail)
   have hv0:=own_grU HI3.out.own (Gr.alloc (Gr.refl w3) (.cells ([.int .i64 ((k:Int)+1), .int .i64 (p:Int), .slice (some ⟨b3,0,none⟩) ms c3]:List Value).toArray 175))
   have hvl:=HI3.out.own.lt
   have hrx:Rd (w3.alloc (.cells ([.int .i64 ((k:Int)+1), .int .i64 (p:Int), .slice (some ⟨b3,0,none⟩) ms c3]:List Value).toArray 175)) 3 (some ⟨w3.heap.size,0,none⟩) 1 ([.int .i64 ((k:Int)+1), .int .i64 (p:Int), .slice (some ⟨b3,0,none⟩) ms c3]:List Value):=Rd.newU (W:=w3) rfl 175 ([.int .i64 ((k:Int)+1), .int .i64 (p:Int), .slice (some ⟨b3,0,none⟩) ms c3]:List Value) rfl
   have hszC:=HI3.out.hB.2
   go_wp2_with (at_builtin;refine wpList_append_rd rfl (.tmp 181) (.tmp 189) 176 rfl (B1+1) 175 i0 _ 3 40 Tryz.underlying176 hi0 hz0 hz1 hz2 rfl (by decide) _ _ _ rfl hv0 (some ⟨w3.heap.size,0,none⟩) 1 _ [.int .i64 ((k:Int)+1), .int .i64 (p:Int), .slice (some ⟨b3,0,none⟩) ms c3] rfl hrx (by simp[Value.oneCell']) (by unfold maxLen;omega) (by omega) (by simp;omega) ?_;intro v9 w2 hown2 hgr2 hat2)
   have I2:=HI3.out.push (Nat.le_refl _) (news:=[⟨(k:Int)+1,p, .slice (some ⟨b3,0,none⟩) ms c3⟩]) (fun z hz=>by simp only[List.mem_cons,List.not_mem_nil,or_false] at hz;rcases hz with rfl<;>exact HS4.out) (by simpa [wyc] using hown2) hgr2 hat2
   have HF:=Lib.hid (I2.fin (m:=1) (by rw[List.map_append];exact HVis.out _ (by rw[HVV.out];simp) (by rw[succS_at HK.out,HVV.out];simp[Wy.st])) Hlen.out HUV.out Hmeas.out (by rw[List.length_append];rfl) (by decide))
   clear hv0 hvl hgr2 hat2 hrx hown2 I2
   go_wp2
   exact HQ.out _ _ HF.out.1 HF.out.2 _ _ _ _ _ _ _ _ _ _ _ _ _ _ _ _ _ _ _ _ _ _ _ _ _ _ _ _ _ _ _ _ _ _ _ _ _ _ _ _ _ _ _ _ _ _ _ _ _ _ _ _ _ _ _ _ _ _ _ _ _ _ _ _ _ _ _ _ _ _ _ _ _ _ _ _ _ _ _ _ _ _ _ _ _ _ _ _ _ _ _ _ _ _ _ _ _ _ _ _ _ _ _ _ _ _ _ _ _ _ _ _ _ _ _ _ _ _ _ _ _ _ _ _ _ _ _ _ _ _
end Go.Proofs.YtnphdacibageiaaGreat
