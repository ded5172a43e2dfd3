import Derived.Test.YtnphdacibageiaaGreatRunFpPlain
import Derived.Test.YtnphdacibageiaaGreatRunFpDevR
import Derived.Test.YtnphdacibageiaaGreatRunSrFitB
set_option linter.all false
set_option maxRecDepth 1000000
set_option maxHeartbeats 12800000
namespace Go.Proofs.YtnphdacibageiaaGreat
open Go.RowKit
def ncells (L:List Fr):List Value:=L.map fun r=> .string r.nm
theorem ncells_at (L:List Fr) (k:Nat) (h:k<L.length):(ncells L)[k]?=some (.string L[k].nm):=by
 unfold ncells;rw[List.getElem?_map,List.getElem?_eq_getElem h];rfl
theorem names_any (w:World):Calls Tryz.prog 7 #[] w fun e w'=>∃A,e= .returned (.slice A rowsL.length 22)∧Rd w' 1 A rowsL.length (ncells rowsL)∧Gr w w':=by
 go_enter Tryz.func7,Tryz.ntmps7
 go_wp2
 go_ret
 exact ⟨_,rfl,Rd.new rfl _ (ncells rowsL) (by rfl),Gr.alloc (Gr.refl _) _⟩
theorem knows_any (nm:ByteArray) (w:World):Calls Tryz.prog 29 #[.string nm] w fun e w'=>e= .returned (.bool (findF nm).isSome)∧Gr w w':=by
 have QN:=names_any
 have hl:rowsL.length≤22:=Nat.le_refl _
 have HF:Hid (∀j (h:j<rowsL.length),isNm nm rowsL[j]=true→(findF nm).isSome=true):=Lib.hid (fun j h hy=>by
  cases hf:findF nm with
  | none=>exact absurd hy (List.find?_eq_none.1 hf _ (List.getElem_mem h))
  | some r=>rfl)
 have HN:Hid ((∀j (h:j<rowsL.length),isNm nm rowsL[j]=false)→(findF nm).isSome=false):=Lib.hid (fun h=>by unfold findF;rw[find_none h];rfl)
 generalize findF nm=fo at HF HN ⊢
 generalize rowsL=L at QN hl HF HN
 have hl':(L.length:Int)≤22:=by omega
 go_enter Tryz.func29,Tryz.ntmps29
 go_wp2_with fail
 refine (QN _).mono ?_;rintro e w1 ⟨A,rfl,hr,hg⟩
 clear QN
 go_wp2
 go_loopw [4] (fun i wr=>∃k:Nat,k≤L.length∧i= .int .i64 k∧Gr w wr∧Gr w1 wr∧Hid (∀j (h:j<L.length),j<k→isNm nm L[j]=false)) (fun i _=>L.length-(intOf i).toNat)
 case atStart=>exact ⟨0,Nat.zero_le _,rfl,hg,Gr.refl _,Lib.hid (fun j _ h=>absurd h (Nat.not_lt_zero _))⟩
 case round=>
  obtain ⟨k,hk,rfl,hgr,hg1,ha⟩:=hrel
  by_cases hlt:k<L.length
  ·
   obtain ⟨ad,rfl,hb,hc⟩:=hr.2 (by omega)
   have hx0:=(hg1.cell (p:=ad.add k) (by rw[add_blk];exact hb)).trans (hc _ _ (ncells_at L k hlt))
   obtain ⟨y,hy⟩:∃y,L[k].nm=y:=⟨_,rfl⟩
   rw[hy] at hx0
   cases hx:isNm nm L[k]
   ·
    have Ht:Hid (∀j (h:j<L.length),j<k+1→isNm nm L[j]=false):=Lib.hid (fun j h hj=>by
     by_cases e:j=k
     ·
      subst e;exact hx
     ·
      exact ha.out j h (by omega))
    have hcmp:(y.toList==nm.toList)=false:=by rw[←hy];exact hx
    clear hx hc hr ha hy
    go_wp2
    go_roundw
    case rel=>exact ⟨k+1,by omega,by go_num,hgr,hg1,Ht⟩
    case measure=>simp[intOf];omega
   ·
    have Ht:=Lib.hid (HF.out k hlt hx)
    have hcmp:(y.toList==nm.toList)=true:=by rw[←hy];exact hx
    clear hx hc hr ha hy
    go_wp2
    go_ret
    exact ⟨by rw[Ht.out];rfl,hgr⟩
  ·
   have hkk:k=L.length:=by omega
   subst hkk
   have Ht:Hid (fo.isSome=false):=Lib.hid (HN.out (fun j h=>ha.out j h h))
   clear ha hr
   go_wp2
   go_ret
   exact ⟨by rw[Ht.out];rfl,hgr⟩
def keepsB (nm:ByteArray) (k x:Vl) (l:List Vl):Bool:=
 bif (nm.toList==[114,101,109,111,118,101,69,109,112,116,121,83,101,114,105,101,115]) then !(kn l).isEmpty else
 bif (nm.toList==[97,118,101,114,97,103,101,65,98,111,118,101])||((nm.toList==[99,117,114,114,101,110,116,65,98,111,118,101])||((nm.toList==[109,97,120,105,109,117,109,65,98,111,118,101])||(nm.toList==[109,105,110,105,109,117,109,65,98,111,118,101]))) then lessB k x else knB k&&(x.ok && !lessB k x)
theorem keeps_e (nm:ByteArray) (k:Vl) (x:Sq) (w:World) (e0:(nm.toList==[114,101,109,111,118,101,69,109,112,116,121,83,101,114,105,101,115])=true) (hl:x.s.vals.length≤1000000) (hv:Rv w x.A x.s.vals) :
  Calls Tryz.prog 34 #[.string nm, .agg #[.bool k.ok, .int .i64 k.n], .agg #[.string x.s.name, .int .i64 x.s.start, .int .i64 x.s.step, .slice x.A x.s.vals.length x.c, .int .i64 x.s.cons]] w fun e w'=>e= .returned (.bool (!(kn x.s.vals).isEmpty))∧Gr w w':=by
 have QO:=fun w hr=>rfof_any nm x.s x.A x.c w hl hr
 unfold aggSr at QO
 have QK:=fun w hr=>rknown_vals_any x.A x.c x.s.vals w hl hr
 generalize ofR (rowF nm).by_ x.s.vals=X at QO ⊢
 generalize kn x.s.vals=KV at QK ⊢
 have gw:Gr w ((w.alloc (.cells #[.bool k.ok, .int .i64 k.n] 25)).alloc (.cells #[.string x.s.name, .int .i64 x.s.start, .int .i64 x.s.step, .slice x.A x.s.vals.length x.c, .int .i64 x.s.cons] 34)):=Gr.alloc (Gr.alloc (Gr.refl _) _) _
 have hVA:VAt ((w.alloc (.cells #[.bool k.ok, .int .i64 k.n] 25)).alloc (.cells #[.string x.s.name, .int .i64 x.s.start, .int .i64 x.s.step, .slice x.A x.s.vals.length x.c, .int .i64 x.s.cons] 34)) w.heap.size k:=by
  refine ⟨?_,?_,?_⟩
  all_goals first|(go_simp;done)|(simp;done)|(simp;omega)
 have HB:Hid (∀W,Gr ((w.alloc (.cells #[.bool k.ok, .int .i64 k.n] 25)).alloc (.cells #[.string x.s.name, .int .i64 x.s.start, .int .i64 x.s.step, .slice x.A x.s.vals.length x.c, .int .i64 x.s.cons] 34)) W→W.cell? ⟨w.heap.size+1,3,none⟩=some (.slice x.A x.s.vals.length x.c)):=Lib.hid (fun W hW=>(hW.cell (p:=⟨w.heap.size+1,3,none⟩) (by simp)).trans (by go_simp))
 go_enter Tryz.func34,Tryz.ntmps34
 go_wp2_with fail
 refine (QO _ (hv.gr gw)).mono ?_;rintro e w1 ⟨rfl,hg⟩
 have gA:Gr w1 (w1.alloc (.cells #[.bool X.ok, .int .i64 X.n] 25)):=Gr.alloc (Gr.refl _) _
 have gw1:=Gr.trans (Gr.trans gw hg) gA
 have hVA1:=(hVA.gr hg).gr gA
 have hb3:=HB.out _ (Gr.trans hg gA)
 have hXA:VAt (w1.alloc (.cells #[.bool X.ok, .int .i64 X.n] 25)) w1.heap.size X:=by
  refine ⟨?_,?_,?_⟩
  all_goals first|(go_simp;done)|(simp;done)
 have zB:w.heap.size+1<(w1.alloc (.cells #[.bool X.ok, .int .i64 X.n] 25)).heap.size:=by have:=hg.size;simp at this;simp;omega
 have hvw:=hv.gr gw1
 clear gA hVA HB hg gw QO
 obtain ⟨k0,k1,kz⟩:=id hVA1
 obtain ⟨x0,x1,xz⟩:=id hXA
 go_wp2_with fail
 refine (QK _ hvw).mono ?_;rintro e w2 ⟨A2,c2,rfl,hrv,hg2⟩
 clear k0 k1 kz x0 x1 xz hrv
 cases KV with
 | nil=>
  go_wp2
  go_ret
  exact ⟨rfl,Gr.trans gw1 hg2⟩
 | cons y KV=>
  have hp:(0:Int)<((y::KV).length:Int):=by simp only[List.length_cons];omega
  have hd:decide (0<(y::KV).length)=true:=rfl
  generalize (y::KV).length=n at hp hd ⊢
  go_wp2
  go_ret
  exact ⟨rfl,Gr.trans gw1 hg2⟩
theorem keeps_a1 (nm:ByteArray) (k:Vl) (x:Sq) (w:World) (e0:(nm.toList==[114,101,109,111,118,101,69,109,112,116,121,83,101,114,105,101,115])=false) (e1:(nm.toList==[97,118,101,114,97,103,101,65,98,111,118,101])=true) (hl:x.s.vals.length≤1000000) (hv:Rv w x.A x.s.vals) :
  Calls Tryz.prog 34 #[.string nm, .agg #[.bool k.ok, .int .i64 k.n], .agg #[.string x.s.name, .int .i64 x.s.start, .int .i64 x.s.step, .slice x.A x.s.vals.length x.c, .int .i64 x.s.cons]] w fun e w'=>e= .returned (.bool (lessB k (ofR (rowF nm).by_ x.s.vals)))∧Gr w w':=by
 have QO:=fun w hr=>rfof_any nm x.s x.A x.c w hl hr
 unfold aggSr at QO
 have QK:=fun w hr=>rknown_vals_any x.A x.c x.s.vals w hl hr
 generalize ofR (rowF nm).by_ x.s.vals=X at QO ⊢
 generalize kn x.s.vals=KV at QK ⊢
 have gw:Gr w ((w.alloc (.cells #[.bool k.ok, .int .i64 k.n] 25)).alloc (.cells #[.string x.s.name, .int .i64 x.s.start, .int .i64 x.s.step, .slice x.A x.s.vals.length x.c, .int .i64 x.s.cons] 34)):=Gr.alloc (Gr.alloc (Gr.refl _) _) _
 have hVA:VAt ((w.alloc (.cells #[.bool k.ok, .int .i64 k.n] 25)).alloc (.cells #[.string x.s.name, .int .i64 x.s.start, .int .i64 x.s.step, .slice x.A x.s.vals.length x.c, .int .i64 x.s.cons] 34)) w.heap.size k:=by
  refine ⟨?_,?_,?_⟩
  all_goals first|(go_simp;done)|(simp;done)|(simp;omega)
 have HB:Hid (∀W,Gr ((w.alloc (.cells #[.bool k.ok, .int .i64 k.n] 25)).alloc (.cells #[.string x.s.name, .int .i64 x.s.start, .int .i64 x.s.step, .slice x.A x.s.vals.length x.c, .int .i64 x.s.cons] 34)) W→W.cell? ⟨w.heap.size+1,3,none⟩=some (.slice x.A x.s.vals.length x.c)):=Lib.hid (fun W hW=>(hW.cell (p:=⟨w.heap.size+1,3,none⟩) (by simp)).trans (by go_simp))
 go_enter Tryz.func34,Tryz.ntmps34
 go_wp2_with fail
 refine (QO _ (hv.gr gw)).mono ?_;rintro e w1 ⟨rfl,hg⟩
 have gA:Gr w1 (w1.alloc (.cells #[.bool X.ok, .int .i64 X.n] 25)):=Gr.alloc (Gr.refl _) _
 have gw1:=Gr.trans (Gr.trans gw hg) gA
 have hVA1:=(hVA.gr hg).gr gA
 have hb3:=HB.out _ (Gr.trans hg gA)
 have hXA:VAt (w1.alloc (.cells #[.bool X.ok, .int .i64 X.n] 25)) w1.heap.size X:=by
  refine ⟨?_,?_,?_⟩
  all_goals first|(go_simp;done)|(simp;done)
 have zB:w.heap.size+1<(w1.alloc (.cells #[.bool X.ok, .int .i64 X.n] 25)).heap.size:=by have:=hg.size;simp at this;simp;omega
 have hvw:=hv.gr gw1
 clear gA hVA HB hg gw QO
 obtain ⟨k0,k1,kz⟩:=id hVA1
 obtain ⟨x0,x1,xz⟩:=id hXA
 have QL:=fun w=>rless_any k X w
 go_wp2_with fail
 refine (QL _).mono ?_;rintro e w2 ⟨rfl,hg2⟩
 clear k0 k1 kz x0 x1 xz QL
 go_wp2
 go_ret
 exact ⟨rfl,Gr.trans gw1 hg2⟩
theorem keeps_a2 (nm:ByteArray) (k:Vl) (x:Sq) (w:World) (e0:(nm.toList==[114,101,109,111,118,101,69,109,112,116,121,83,101,114,105,101,115])=false) (e1:(nm.toList==[97,118,101,114,97,103,101,65,98,111,118,101])=false) (e2:(nm.toList==[99,117,114,114,101,110,116,65,98,111,118,101])=true) (hl:x.s.vals.length≤1000000) (hv:Rv w x.A x.s.vals) :
  Calls Tryz.prog 34 #[.string nm, .agg #[.bool k.ok, .int .i64 k.n], .agg #[.string x.s.name, .int .i64 x.s.start, .int .i64 x.s.step, .slice x.A x.s.vals.length x.c, .int .i64 x.s.cons]] w fun e w'=>e= .returned (.bool (lessB k (ofR (rowF nm).by_ x.s.vals)))∧Gr w w':=by
 have QO:=fun w hr=>rfof_any nm x.s x.A x.c w hl hr
 unfold aggSr at QO
 have QK:=fun w hr=>rknown_vals_any x.A x.c x.s.vals w hl hr
 generalize ofR (rowF nm).by_ x.s.vals=X at QO ⊢
 generalize kn x.s.vals=KV at QK ⊢
 have gw:Gr w ((w.alloc (.cells #[.bool k.ok, .int .i64 k.n] 25)).alloc (.cells #[.string x.s.name, .int .i64 x.s.start, .int .i64 x.s.step, .slice x.A x.s.vals.length x.c, .int .i64 x.s.cons] 34)):=Gr.alloc (Gr.alloc (Gr.refl _) _) _
 have hVA:VAt ((w.alloc (.cells #[.bool k.ok, .int .i64 k.n] 25)).alloc (.cells #[.string x.s.name, .int .i64 x.s.start, .int .i64 x.s.step, .slice x.A x.s.vals.length x.c, .int .i64 x.s.cons] 34)) w.heap.size k:=by
  refine ⟨?_,?_,?_⟩
  all_goals first|(go_simp;done)|(simp;done)|(simp;omega)
 have HB:Hid (∀W,Gr ((w.alloc (.cells #[.bool k.ok, .int .i64 k.n] 25)).alloc (.cells #[.string x.s.name, .int .i64 x.s.start, .int .i64 x.s.step, .slice x.A x.s.vals.length x.c, .int .i64 x.s.cons] 34)) W→W.cell? ⟨w.heap.size+1,3,none⟩=some (.slice x.A x.s.vals.length x.c)):=Lib.hid (fun W hW=>(hW.cell (p:=⟨w.heap.size+1,3,none⟩) (by simp)).trans (by go_simp))
 go_enter Tryz.func34,Tryz.ntmps34
 go_wp2_with fail
 refine (QO _ (hv.gr gw)).mono ?_;rintro e w1 ⟨rfl,hg⟩
 have gA:Gr w1 (w1.alloc (.cells #[.bool X.ok, .int .i64 X.n] 25)):=Gr.alloc (Gr.refl _) _
 have gw1:=Gr.trans (Gr.trans gw hg) gA
 have hVA1:=(hVA.gr hg).gr gA
 have hb3:=HB.out _ (Gr.trans hg gA)
 have hXA:VAt (w1.alloc (.cells #[.bool X.ok, .int .i64 X.n] 25)) w1.heap.size X:=by
  refine ⟨?_,?_,?_⟩
  all_goals first|(go_simp;done)|(simp;done)
 have zB:w.heap.size+1<(w1.alloc (.cells #[.bool X.ok, .int .i64 X.n] 25)).heap.size:=by have:=hg.size;simp at this;simp;omega
 have hvw:=hv.gr gw1
 clear gA hVA HB hg gw QO
 obtain ⟨k0,k1,kz⟩:=id hVA1
 obtain ⟨x0,x1,xz⟩:=id hXA
 have QL:=fun w=>rless_any k X w
 go_wp2_with fail
 refine (QL _).mono ?_;rintro e w2 ⟨rfl,hg2⟩
 clear k0 k1 kz x0 x1 xz QL
 go_wp2
 go_ret
 exact ⟨rfl,Gr.trans gw1 hg2⟩
theorem keeps_a3 (nm:ByteArray) (k:Vl) (x:Sq) (w:World) (e0:(nm.toList==[114,101,109,111,118,101,69,109,112,116,121,83,101,114,105,101,115])=false) (e1:(nm.toList==[97,118,101,114,97,103,101,65,98,111,118,101])=false) (e2:(nm.toList==[99,117,114,114,101,110,116,65,98,111,118,101])=false) (e3:(nm.toList==[109,97,120,105,109,117,109,65,98,111,118,101])=true) (hl:x.s.vals.length≤1000000) (hv:Rv w x.A x.s.vals) :
  Calls Tryz.prog 34 #[.string nm, .agg #[.bool k.ok, .int .i64 k.n], .agg #[.string x.s.name, .int .i64 x.s.start, .int .i64 x.s.step, .slice x.A x.s.vals.length x.c, .int .i64 x.s.cons]] w fun e w'=>e= .returned (.bool (lessB k (ofR (rowF nm).by_ x.s.vals)))∧Gr w w':=by
 have QO:=fun w hr=>rfof_any nm x.s x.A x.c w hl hr
 unfold aggSr at QO
 have QK:=fun w hr=>rknown_vals_any x.A x.c x.s.vals w hl hr
 generalize ofR (rowF nm).by_ x.s.vals=X at QO ⊢
 generalize kn x.s.vals=KV at QK ⊢
 have gw:Gr w ((w.alloc (.cells #[.bool k.ok, .int .i64 k.n] 25)).alloc (.cells #[.string x.s.name, .int .i64 x.s.start, .int .i64 x.s.step, .slice x.A x.s.vals.length x.c, .int .i64 x.s.cons] 34)):=Gr.alloc (Gr.alloc (Gr.refl _) _) _
 have hVA:VAt ((w.alloc (.cells #[.bool k.ok, .int .i64 k.n] 25)).alloc (.cells #[.string x.s.name, .int .i64 x.s.start, .int .i64 x.s.step, .slice x.A x.s.vals.length x.c, .int .i64 x.s.cons] 34)) w.heap.size k:=by
  refine ⟨?_,?_,?_⟩
  all_goals first|(go_simp;done)|(simp;done)|(simp;omega)
 have HB:Hid (∀W,Gr ((w.alloc (.cells #[.bool k.ok, .int .i64 k.n] 25)).alloc (.cells #[.string x.s.name, .int .i64 x.s.start, .int .i64 x.s.step, .slice x.A x.s.vals.length x.c, .int .i64 x.s.cons] 34)) W→W.cell? ⟨w.heap.size+1,3,none⟩=some (.slice x.A x.s.vals.length x.c)):=Lib.hid (fun W hW=>(hW.cell (p:=⟨w.heap.size+1,3,none⟩) (by simp)).trans (by go_simp))
 go_enter Tryz.func34,Tryz.ntmps34
 go_wp2_with fail
 refine (QO _ (hv.gr gw)).mono ?_;rintro e w1 ⟨rfl,hg⟩
 have gA:Gr w1 (w1.alloc (.cells #[.bool X.ok, .int .i64 X.n] 25)):=Gr.alloc (Gr.refl _) _
 have gw1:=Gr.trans (Gr.trans gw hg) gA
 have hVA1:=(hVA.gr hg).gr gA
 have hb3:=HB.out _ (Gr.trans hg gA)
 have hXA:VAt (w1.alloc (.cells #[.bool X.ok, .int .i64 X.n] 25)) w1.heap.size X:=by
  refine ⟨?_,?_,?_⟩
  all_goals first|(go_simp;done)|(simp;done)
 have zB:w.heap.size+1<(w1.alloc (.cells #[.bool X.ok, .int .i64 X.n] 25)).heap.size:=by have:=hg.size;simp at this;simp;omega
 have hvw:=hv.gr gw1
 clear gA hVA HB hg gw QO
 obtain ⟨k0,k1,kz⟩:=id hVA1
 obtain ⟨x0,x1,xz⟩:=id hXA
 have QL:=fun w=>rless_any k X w
 go_wp2_with fail
 refine (QL _).mono ?_;rintro e w2 ⟨rfl,hg2⟩
 clear k0 k1 kz x0 x1 xz QL
 go_wp2
 go_ret
 exact ⟨rfl,Gr.trans gw1 hg2⟩
theorem keeps_a4 (nm:ByteArray) (k:Vl) (x:Sq) (w:World) (e0:(nm.toList==[114,101,109,111,118,101,69,109,112,116,121,83,101,114,105,101,115])=false) (e1:(nm.toList==[97,118,101,114,97,103,101,65,98,111,118,101])=false) (e2:(nm.toList==[99,117,114,114,101,110,116,65,98,111,118,101])=false) (e3:(nm.toList==[109,97,120,105,109,117,109,65,98,111,118,101])=false) (e4:(nm.toList==[109,105,110,105,109,117,109,65,98,111,118,101])=true) (hl:x.s.vals.length≤1000000) (hv:Rv w x.A x.s.vals) :
  Calls Tryz.prog 34 #[.string nm, .agg #[.bool k.ok, .int .i64 k.n], .agg #[.string x.s.name, .int .i64 x.s.start, .int .i64 x.s.step, .slice x.A x.s.vals.length x.c, .int .i64 x.s.cons]] w fun e w'=>e= .returned (.bool (lessB k (ofR (rowF nm).by_ x.s.vals)))∧Gr w w':=by
 have QO:=fun w hr=>rfof_any nm x.s x.A x.c w hl hr
 unfold aggSr at QO
 have QK:=fun w hr=>rknown_vals_any x.A x.c x.s.vals w hl hr
 generalize ofR (rowF nm).by_ x.s.vals=X at QO ⊢
 generalize kn x.s.vals=KV at QK ⊢
 have gw:Gr w ((w.alloc (.cells #[.bool k.ok, .int .i64 k.n] 25)).alloc (.cells #[.string x.s.name, .int .i64 x.s.start, .int .i64 x.s.step, .slice x.A x.s.vals.length x.c, .int .i64 x.s.cons] 34)):=Gr.alloc (Gr.alloc (Gr.refl _) _) _
 have hVA:VAt ((w.alloc (.cells #[.bool k.ok, .int .i64 k.n] 25)).alloc (.cells #[.string x.s.name, .int .i64 x.s.start, .int .i64 x.s.step, .slice x.A x.s.vals.length x.c, .int .i64 x.s.cons] 34)) w.heap.size k:=by
  refine ⟨?_,?_,?_⟩
  all_goals first|(go_simp;done)|(simp;done)|(simp;omega)
 have HB:Hid (∀W,Gr ((w.alloc (.cells #[.bool k.ok, .int .i64 k.n] 25)).alloc (.cells #[.string x.s.name, .int .i64 x.s.start, .int .i64 x.s.step, .slice x.A x.s.vals.length x.c, .int .i64 x.s.cons] 34)) W→W.cell? ⟨w.heap.size+1,3,none⟩=some (.slice x.A x.s.vals.length x.c)):=Lib.hid (fun W hW=>(hW.cell (p:=⟨w.heap.size+1,3,none⟩) (by simp)).trans (by go_simp))
 go_enter Tryz.func34,Tryz.ntmps34
 go_wp2_with fail
 refine (QO _ (hv.gr gw)).mono ?_;rintro e w1 ⟨rfl,hg⟩
 have gA:Gr w1 (w1.alloc (.cells #[.bool X.ok, .int .i64 X.n] 25)):=Gr.alloc (Gr.refl _) _
 have gw1:=Gr.trans (Gr.trans gw hg) gA
 have hVA1:=(hVA.gr hg).gr gA
 have hb3:=HB.out _ (Gr.trans hg gA)
 have hXA:VAt (w1.alloc (.cells #[.bool X.ok, .int .i64 X.n] 25)) w1.heap.size X:=by
  refine ⟨?_,?_,?_⟩
  all_goals first|(go_simp;done)|(simp;done)
 have zB:w.heap.size+1<(w1.alloc (.cells #[.bool X.ok, .int .i64 X.n] 25)).heap.size:=by have:=hg.size;simp at this;simp;omega
 have hvw:=hv.gr gw1
 clear gA hVA HB hg gw QO
 obtain ⟨k0,k1,kz⟩:=id hVA1
 obtain ⟨x0,x1,xz⟩:=id hXA
 have QL:=fun w=>rless_any k X w
 go_wp2_with fail
 refine (QL _).mono ?_;rintro e w2 ⟨rfl,hg2⟩
 clear k0 k1 kz x0 x1 xz QL
 go_wp2
 go_ret
 exact ⟨rfl,Gr.trans gw1 hg2⟩
theorem keeps_b (nm:ByteArray) (k:Vl) (x:Sq) (w:World) (e0:(nm.toList==[114,101,109,111,118,101,69,109,112,116,121,83,101,114,105,101,115])=false) (e1:(nm.toList==[97,118,101,114,97,103,101,65,98,111,118,101])=false) (e2:(nm.toList==[99,117,114,114,101,110,116,65,98,111,118,101])=false) (e3:(nm.toList==[109,97,120,105,109,117,109,65,98,111,118,101])=false) (e4:(nm.toList==[109,105,110,105,109,117,109,65,98,111,118,101])=false) (hl:x.s.vals.length≤1000000) (hv:Rv w x.A x.s.vals) :
  Calls Tryz.prog 34 #[.string nm, .agg #[.bool k.ok, .int .i64 k.n], .agg #[.string x.s.name, .int .i64 x.s.start, .int .i64 x.s.step, .slice x.A x.s.vals.length x.c, .int .i64 x.s.cons]] w fun e w'=>e= .returned (.bool (knB k&&((ofR (rowF nm).by_ x.s.vals).ok && !lessB k (ofR (rowF nm).by_ x.s.vals))))∧Gr w w':=by
 have QO:=fun w hr=>rfof_any nm x.s x.A x.c w hl hr
 unfold aggSr at QO
 have QK:=fun w hr=>rknown_vals_any x.A x.c x.s.vals w hl hr
 generalize ofR (rowF nm).by_ x.s.vals=X at QO ⊢
 generalize kn x.s.vals=KV at QK ⊢
 have gw:Gr w ((w.alloc (.cells #[.bool k.ok, .int .i64 k.n] 25)).alloc (.cells #[.string x.s.name, .int .i64 x.s.start, .int .i64 x.s.step, .slice x.A x.s.vals.length x.c, .int .i64 x.s.cons] 34)):=Gr.alloc (Gr.alloc (Gr.refl _) _) _
 have hVA:VAt ((w.alloc (.cells #[.bool k.ok, .int .i64 k.n] 25)).alloc (.cells #[.string x.s.name, .int .i64 x.s.start, .int .i64 x.s.step, .slice x.A x.s.vals.length x.c, .int .i64 x.s.cons] 34)) w.heap.size k:=by
  refine ⟨?_,?_,?_⟩
  all_goals first|(go_simp;done)|(simp;done)|(simp;omega)
 have HB:Hid (∀W,Gr ((w.alloc (.cells #[.bool k.ok, .int .i64 k.n] 25)).alloc (.cells #[.string x.s.name, .int .i64 x.s.start, .int .i64 x.s.step, .slice x.A x.s.vals.length x.c, .int .i64 x.s.cons] 34)) W→W.cell? ⟨w.heap.size+1,3,none⟩=some (.slice x.A x.s.vals.length x.c)):=Lib.hid (fun W hW=>(hW.cell (p:=⟨w.heap.size+1,3,none⟩) (by simp)).trans (by go_simp))
 go_enter Tryz.func34,Tryz.ntmps34
 go_wp2_with fail
 refine (QO _ (hv.gr gw)).mono ?_;rintro e w1 ⟨rfl,hg⟩
 have gA:Gr w1 (w1.alloc (.cells #[.bool X.ok, .int .i64 X.n] 25)):=Gr.alloc (Gr.refl _) _
 have gw1:=Gr.trans (Gr.trans gw hg) gA
 have hVA1:=(hVA.gr hg).gr gA
 have hb3:=HB.out _ (Gr.trans hg gA)
 have hXA:VAt (w1.alloc (.cells #[.bool X.ok, .int .i64 X.n] 25)) w1.heap.size X:=by
  refine ⟨?_,?_,?_⟩
  all_goals first|(go_simp;done)|(simp;done)
 have zB:w.heap.size+1<(w1.alloc (.cells #[.bool X.ok, .int .i64 X.n] 25)).heap.size:=by have:=hg.size;simp at this;simp;omega
 have hvw:=hv.gr gw1
 clear gA hVA HB hg gw QO
 obtain ⟨k0,k1,kz⟩:=id hVA1
 obtain ⟨x0,x1,xz⟩:=id hXA
 have QL:=fun w=>rless_any k X w
 have QM:=fun w=>rkn_any k w
 obtain ⟨lb,hlb⟩:∃lb,lessB k X=lb:=⟨_,rfl⟩
 obtain ⟨kb,hkb⟩:∃kb,knB k=kb:=⟨_,rfl⟩
 rw[hlb] at QL
 rw[hkb] at QM
 have HLB:=Lib.hid hlb
 have HKB:=Lib.hid hkb
 clear hlb hkb
 go_wp2_with fail
 refine (QM _).mono ?_;rintro e w2 ⟨rfl,hg2⟩
 have hVA2:=hVA1.gr hg2
 have hXA2:=hXA.gr hg2
 have gw2:=Gr.trans gw1 hg2
 clear k0 k1 kz x0 x1 xz hVA1 hXA gw1 hg2 QM
 obtain ⟨k0,k1,kz⟩:=id hVA2
 obtain ⟨x0,x1,xz⟩:=id hXA2
 obtain ⟨xo,xn⟩:=X
 simp only at x0 x1
 cases kb<;>cases xo
 case true.true=>
  go_wp2_with fail
  refine (QL _).mono ?_;rintro e w3 ⟨rfl,hg3⟩
  go_wp2
  go_ret
  exact ⟨by simp[HLB.out,HKB.out],Gr.trans gw2 hg3⟩
 all_goals
  go_wp2
  go_ret
  exact ⟨by simp[HLB.out,HKB.out],gw2⟩
theorem keeps_any (nm:ByteArray) (k:Vl) (x:Sq) (w:World) (hl:x.s.vals.length≤1000000) (hv:Rv w x.A x.s.vals) :
  Calls Tryz.prog 34 #[.string nm, .agg #[.bool k.ok, .int .i64 k.n], .agg #[.string x.s.name, .int .i64 x.s.start, .int .i64 x.s.step, .slice x.A x.s.vals.length x.c, .int .i64 x.s.cons]] w fun e w'=>e= .returned (.bool (keepsB nm k (ofR (rowF nm).by_ x.s.vals) x.s.vals))∧Gr w w':=by
 unfold keepsB
 cases e0:(nm.toList==[114,101,109,111,118,101,69,109,112,116,121,83,101,114,105,101,115])
 case true=>exact keeps_e nm k x w e0 hl hv
 cases e1:(nm.toList==[97,118,101,114,97,103,101,65,98,111,118,101])
 case true=>exact keeps_a1 nm k x w e0 e1 hl hv
 cases e2:(nm.toList==[99,117,114,114,101,110,116,65,98,111,118,101])
 case true=>exact keeps_a2 nm k x w e0 e1 e2 hl hv
 cases e3:(nm.toList==[109,97,120,105,109,117,109,65,98,111,118,101])
 case true=>exact keeps_a3 nm k x w e0 e1 e2 e3 hl hv
 cases e4:(nm.toList==[109,105,110,105,109,117,109,65,98,111,118,101])
 case true=>exact keeps_a4 nm k x w e0 e1 e2 e3 e4 hl hv
 exact keeps_b nm k x w e0 e1 e2 e3 e4 hl hv
end Go.Proofs.YtnphdacibageiaaGreat
